/- Ck: texts of this proof, joined. -/
import Derived.Test.YtojhdfdhfajjjaaDoorCa
import Derived.Test.YtojhdfdhfajjjaaDoorCb
import Derived.Test.YtojhdfdhfajjjaaDoorCc
import Derived.Test.YtojhdfdhfajjjaaDoorCd
import Derived.Test.YtojhdfdhfajjjaaDoorCe
import Derived.Test.YtojhdfdhfajjjaaDoorCf
import Derived.Test.YtojhdfdhfajjjaaDoorCg
import Derived.Test.YtojhdfdhfajjjaaDoorCh
import Derived.Test.YtojhdfdhfajjjaaDoorCi
import Derived.Test.YtojhdfdhfajjjaaDoorCj
namespace Go.Proofs.YtojhdfdhfajjjaaDoor
set_option linter.unusedVariables false
set_option linter.unusedSimpArgs false
open Go.RowKit Pl
theorem Mid.visited {w w' : World} {b : Nat} {B : Nat → Prop} {s : RunS} {nv u : Nat} {v : Value} (M : Mid w b B s nv u) (hr : Run w' b { s with vis := v }) (ho : OwnV w' (fun j => (B j ∧ j ≠ b) ∨ w.heap.size ≤ j) v (nv + 1))
  (hs : Save w w' (fun j => j = b ∨ s.vis.ownBlock = some j)) (hnv : nv ≤ 2 * u) : Mid w' b B { s with vis := v } (nv + 1) u :=
 ⟨hr, ho.mono (fun j hj => hj.elim id (fun h => ⟨M.sz j h, by have := M.run.lt; omega⟩)), ⟨M.used.made, M.used.evs, by omega⟩, M.le, M.at_, M.ch, M.ask, fun j hj => M.sz j (Nat.le_trans hs.size hj)⟩
theorem Save.visited {w w' : World} {b : Nat} {B : Nat → Prop} {s : RunS} {nv u : Nat} (M : Mid w b B s nv u) (hs : Save w w' (fun j => j = b ∨ s.vis.ownBlock = some j)) : Save w w' (fun j => j = b ∨ B j) := by
 obtain ⟨xs, _, hl⟩ := M.own
 exact hs.mono (fun j _ h => h.elim .inl (fun e => .inr (hl j e).1))
set_option maxHeartbeats 1600000 in
set_option maxRecDepth 100000 in
theorem within_scope (i : Inf) (b0 b1 : T) (h0 : BodyC b0) (w : World) (b : Nat) (B : Nat → Prop) (s : RunS) (nv u : Nat) (ok : Nat → Prop) (A : Option Addr) (c : Nat)
  (H : WithC w b B s nv u i b0 b1 ok A c) (hk : i.kind = 123) (hkn : (i.kind.toNat : Int) = 123) :
  Calls Tryd.prog 68 #[.pointer (some ⟨b, 0, none⟩), aggOf i (.slice A i.nb c)] w (WPost w b B s nv u (1 + (b0.count + b1.count))) := by
 have hnb := H.nok.sc hk
 obtain ⟨g, V0, d0, cs0, rfl, hv0, hs0, ho0, _⟩ := H.bodies.at (j := 0) (by omega)
 have HS0 := Lib.hid hs0
 have HO0 := Lib.hid ho0
 rw [if_pos rfl] at hv0
 have hgl : g < w.heap.size := World.block_lt_of_cell? w _ hv0
 have hgn : g ≠ w.heap.size := by omega
 have HH := Lib.hid H
 unfold aggOf
 rw [hkn, hnb]
 have HNB := Lib.hid hnb
 have H0 := Lib.hid h0
 clear hk hkn H h0 hnb hs0 ho0
 go_enter Tryd.func68, Tryd.ntmps68
 go_wp2_with fail
 generalize hW : w.alloc (.cells #[.int .u8 123, .int .i64 i.at_, .int .i64 i.end_, .string i.vars, .slice (some ⟨g, 0, none⟩) 1 c, .string i.scope] 82) = W
 have HG0 := Lib.hid (show w.grownBy W none by rw [← hW]; exact World.grownBy_alloc w _ none)
 have hcell : W.heap[w.heap.size]? = some (.cells #[.int .u8 123, .int .i64 i.at_, .int .i64 i.end_, .string i.vars, .slice (some ⟨g, 0, none⟩) 1 c, .string i.scope] 82 (0, 0)) := by rw [← hW]; exact heap_alloc_new w _
 have HC := Lib.hid hcell
 have hbg : w.heap.size ≠ b := by have := HH.out.mid.run.lt; omega
 have M0 := Lib.hid (HH.out.mid.box HG0.out (Array.getElem?_eq_some_iff.1 hcell).1)
 have hkeep : ∀ j, ok j → j < w.heap.size → W.heap[j]? = w.heap[j]? := fun j hj hlt => HG0.out.block j hlt (by simp)
 have hs0 := HS0.out.keep hkeep
 have ho0 := HO0.out.keep hkeep
 have hcost := HH.out.cost
 have hap : ∀ j, ok j → ¬ (B j ∧ j ≠ w.heap.size) ∧ j ≠ b := fun j hj => ⟨fun h => (HH.out.apart j hj).1 h.1, (HH.out.apart j hj).2⟩
 rw [Nat.add_assoc] at hcost
 have hco := (cost_one hcost).2
 have hle0 : b0.count * (1 + (s.ch.size - s.at_)) ≤ (b0.count + b1.count) * (1 + (s.ch.size - s.at_)) := Nat.mul_le_mul (by omega) (Nat.le_refl _)
 have hnv : nv ≤ 2 * (u + 1) := by have := HH.out.mid.used.nv; omega
 have B0 := Lib.hid (H0.out W b _ s nv (u + 1) ok _ cs0 M0.out.count hnv hs0 ho0 hap (by omega))
 clear hW hcell hco hcost hs0 ho0 hap hkeep hv0 hle0 hnv hgl hgn
 refine Calls.mono B0.out ?_
 rintro e w1 ⟨s1, nv1, u1, rfl, M1, hch1, ha1, hu1, hn1, hs1⟩
 have HM1 := Lib.hid M1
 have HS1 := Lib.hid hs1
 have hc1 : w1.heap[w.heap.size]? = some (.cells #[.int .u8 123, .int .i64 i.at_, .int .i64 i.end_, .string i.vars, .slice (some ⟨g, 0, none⟩) 1 c, .string i.scope] 82 (0, 0)) := (hs1.block _ (Array.getElem?_eq_some_iff.1 HC.out).1 (fun e => e.elim hbg (fun h => h.2 rfl))).trans HC.out
 have HC1 := Lib.hid hc1
 have hu1' : u1 ≤ u + (1 + (b0.count + b1.count)) * (1 + (s1.at_ - s.at_)) := within_budget (u1 := u + 1) (a := s.at_) (b := s.at_) (Nat.le_refl _) ha1 (Nat.le_add_right _ _) (Nat.le_refl _) hu1
 have hu2 : u1 ≤ 1680 := by
  have : (1 + (b0.count + b1.count)) * (1 + (s1.at_ - s.at_)) ≤ (1 + (b0.count + b1.count)) * (1 + (s.ch.size - s.at_)) := Nat.mul_le_mul (Nat.le_refl _) (by have := M1.at_; rw [hch1] at this; omega)
  have hcost := HH.out.cost
  rw [Nat.add_assoc] at hcost
  omega
 have HU := Lib.hid hu1'
 have HCH := Lib.hid hch1
 clear hu1 hu1' hs1 M1 hc1 hch1
 go_wp2_with fail
 refine Calls.mono (ends_any w1 b s1 HM1.out.run) ?_
 rintro e wx ⟨rfl, hwx⟩
 rw [hwx]
 clear hwx wx
 cases hends : s1.ends
 ·have n2 : w1.cell? ⟨w.heap.size, 2, none⟩ = some (.int .i64 i.end_) := by simp [World.cell?, HC1.out]
  have n3 : w1.cell? ⟨w.heap.size, 3, none⟩ = some (.string i.vars) := by simp [World.cell?, HC1.out]
  have n5 : w1.cell? ⟨w.heap.size, 5, none⟩ = some (.string i.scope) := by simp [World.cell?, HC1.out]
  have hen := HH.out.nok.en
  have hen1 := HH.out.nok.en1
  have hsl := HH.out.nok.ss
  have hvl := HH.out.nok.vs
  have hev : s1.ev.size ≤ 840000 := by have := HM1.out.used.evs; omega
  have hmade : s1.made ≤ 1680 := by have := HM1.out.used.made; omega
  have hnv0 := HH.out.mid.used.nv
  have hn11 := hn1.1
  have hn12 := hn1.2
  clear hn1
  go_wp2_with fail
  refine Calls.mono (visit_any w1 b s1 _ (i.scope ++ i.vars) nv1 _ HM1.out.run (HH.out.nok.sl.append HH.out.nok.vl) (by rw [ByteArray.size_append]; omega) HM1.out.own (fun h => h.2 rfl) (by have := HM1.out.used.nv; omega)) ?_
  rintro e w2 ⟨v2, rfl, hr2, ho2, hs2⟩
  have hb2 : s1.vis.ownBlock ≠ some w.heap.size := fun e => by
   obtain ⟨xs, _, hl⟩ := HM1.out.own
   exact (hl _ e).1.2 rfl
  have hc2 : w2.heap[w.heap.size]? = some (.cells #[.int .u8 123, .int .i64 i.at_, .int .i64 i.end_, .string i.vars, .slice (some ⟨g, 0, none⟩) 1 c, .string i.scope] 82 (0, 0)) := (hs2.block _ (Array.getElem?_eq_some_iff.1 HC1.out).1 (fun e => e.elim hbg hb2)).trans HC1.out
  have q3 : w2.cell? ⟨w.heap.size, 3, none⟩ = some (.string i.vars) := by simp [World.cell?, hc2]
  have HM2 := Lib.hid (HM1.out.visited hr2 ho2 hs2 (by omega))
  have HS2 := Lib.hid (Save.visited HM1.out hs2)
  clear hr2 ho2 hs2 hb2 hc2 n2 n3 n5 hends
  go_wp2_with fail
  refine Calls.mono (clear_any w2 b _ i.vars HM2.out.run HH.out.nok.vl HH.out.nok.vs (fun k => by have := HM2.out.le k; have h2 : s1.made ≤ 1680 := hmade; exact Nat.le_trans (HM2.out.le k) (by show s1.made ≤ 9999; omega)) (by show s1.ev.size ≤ 990000; omega)) ?_
  rintro e w3 ⟨ev3, V3, hev3, hV3, rfl, hr3, hg3⟩
  have HR3 := Lib.hid hr3
  have HG3 := Lib.hid hg3
  clear hr3 hg3 q3
  go_wp2_with fail
  have hev3' : ev3.size ≤ s1.ev.size + 480 := by
   have h1 : ev3.size ≤ s1.ev.size + 6 * i.vars.size := hev3
   omega
  have hV3' : ∀ j, V3 j ≤ s1.made := fun j => by
   have h1 : V3 j = s1.V j ∨ V3 j = 0 := hV3 j
   have h2 : s1.V j ≤ s1.made := HM1.out.le j
   rcases h1 with e | e <;> omega
  have hus := HM1.out.used
  have hu0 := HH.out.mid.used.evs
  go_end0
  refine ⟨rfl, BPost.box (g := w.heap.size) ⟨_, nv1 + 1, u1, rfl, ⟨HR3.out, HM2.out.own.kept HG3.out, ⟨hus.made, by show ev3.size ≤ _; omega, by omega⟩, hV3', HM1.out.at_, HM1.out.ch, HM1.out.ask, fun j hj => HM2.out.sz j (Nat.le_trans HG3.out.size hj)⟩, HCH.out, ha1, HU.out, ⟨by omega, by show ev3.size + 500 * u ≤ s.ev.size + 500 * u1; omega⟩, HS1.out.join (HS2.out.join (Save.at_ HG3.out))⟩ HG0.out⟩
 ·go_wp2_with fail
  go_end0
  exact ⟨rfl, BPost.box (g := w.heap.size) ⟨s1, nv1, u1, rfl, HM1.out, HCH.out, ha1, HU.out, ⟨by omega, by omega⟩, HS1.out⟩ HG0.out⟩
structure LRel (W : World) (b : Nat) (B : Nat → Prop) (s : RunS) (nv u n : Nat) (g : Nat) (o : Obj) (s1 : RunS) (nv1 u1 : Nat) (wr : World) : Prop where
 mid : Mid wr b B s1 nv1 u1
 ch : s1.ch = s.ch
 at_ : s.at_ ≤ s1.at_
 use : u1 ≤ u + 1 + n * (s1.at_ - s.at_)
 rel : nv1 + 2 * u + 1 ≤ nv + 2 * u1 ∧ s1.ev.size + 500 * u ≤ s.ev.size + 500 * u1
 save : Save W wr (fun j => j = b ∨ B j)
 nvs : nv1 ≤ 2 * u1
 box : wr.heap[g]? = some o
theorem round_cost {u u1 n C a a1 : Nat} (h : u + (1 + n) * (1 + (C - a)) ≤ 1680) (ha : a ≤ a1) (hc : a1 < C) (hu : u1 ≤ u + 1 + n * (a1 - a)) : u1 + n * (1 + (C - (a1 + 1))) ≤ 1680 := by
 have e : (1 + n) * (1 + (C - a)) = (1 + (C - a)) + n * (1 + (C - a)) := by rw [Nat.add_mul, Nat.one_mul]
 have e1 : n * (a1 - a) + n * (1 + (C - (a1 + 1))) = n * (C - a) := by rw [← Nat.mul_add]; congr 1; omega
 have e2 : n * (C - a) ≤ n * (1 + (C - a)) := Nat.mul_le_mul (Nat.le_refl _) (by omega)
 omega
theorem LRel.done {w W w2 : World} {b g : Nat} {B : Nat → Prop} {s s1 s2 : RunS} {nv u n m nv1 u1 : Nat} {o : Obj} {wr : World} (h : LRel W b (fun j => B j ∧ j ≠ g) s nv u n g o s1 nv1 u1 wr) (hnm : n ≤ m) (hg0 : w.grownBy W none)
  (M : Mid w2 b (fun j => B j ∧ j ≠ g) s2 nv1 u1) (hc : s2.ch = s1.ch) (ha : s1.at_ ≤ s2.at_) (he : s2.ev = s1.ev) (hg : wr.grownBy w2 (some b)) : WPost w b B s nv u (1 + m) (.returned (.tuple #[])) w2 := by
 have hu : u1 ≤ u + (1 + n) * (1 + (s2.at_ - s.at_)) := by
  have h1 := h.use
  have h2 : n * (s1.at_ - s.at_) ≤ n * (s2.at_ - s.at_) := Nat.mul_le_mul (Nat.le_refl _) (by omega)
  exact loop_end (by omega)
 have hB : BPost W b (fun j => B j ∧ j ≠ g) s nv u (1 + n) 1 (.returned (.tuple #[])) w2 := ⟨s2, nv1, u1, rfl, M, hc.trans h.ch, Nat.le_trans h.at_ ha, hu, by rw [he]; exact h.rel, h.save.join (Save.at_ hg)⟩
 exact ⟨rfl, (hB.box hg0).weak (by omega) (Nat.le_refl _)⟩
set_option maxHeartbeats 1600000 in
set_option maxRecDepth 100000 in
theorem within_loop (i : Inf) (b0 b1 : T) (h0 : BodyC b0) (w : World) (b : Nat) (B : Nat → Prop) (s : RunS) (nv u : Nat) (ok : Nat → Prop) (A : Option Addr) (c : Nat)
  (H : WithC w b B s nv u i b0 b1 ok A c) (hk : i.kind = 42) (hkn : (i.kind.toNat : Int) = 42) :
  Calls Tryd.prog 68 #[.pointer (some ⟨b, 0, none⟩), aggOf i (.slice A i.nb c)] w (WPost w b B s nv u (1 + (b0.count + b1.count))) := by
 have hnb := H.nok.lp hk
 obtain ⟨g, V0, d0, cs0, rfl, hv0, hs0, ho0, hokg⟩ := H.bodies.at (j := 0) (by omega)
 have HS0 := Lib.hid hs0
 have HO0 := Lib.hid ho0
 rw [if_pos rfl] at hv0
 have HV0 := Lib.hid hv0
 have hgl : g < w.heap.size := World.block_lt_of_cell? w _ hv0
 have HGL := Lib.hid hgl
 have HH := Lib.hid H
 unfold aggOf
 rw [hkn, hnb]
 have H0 := Lib.hid h0
 clear hk hkn H h0 hnb hs0 ho0 hgl hv0
 go_enter Tryd.func68, Tryd.ntmps68
 go_wp2_with fail
 generalize hW : w.alloc (.cells #[.int .u8 42, .int .i64 i.at_, .int .i64 i.end_, .string i.vars, .slice (some ⟨g, 0, none⟩) 1 c, .string i.scope] 82) = W
 have HG0 := Lib.hid (show w.grownBy W none by rw [← hW]; exact World.grownBy_alloc w _ none)
 have hcell : W.heap[w.heap.size]? = some (.cells #[.int .u8 42, .int .i64 i.at_, .int .i64 i.end_, .string i.vars, .slice (some ⟨g, 0, none⟩) 1 c, .string i.scope] 82 (0, 0)) := by rw [← hW]; exact heap_alloc_new w _
 have hbg : w.heap.size ≠ b := by have := HH.out.mid.run.lt; omega
 have M0 := Lib.hid (HH.out.mid.box HG0.out (Array.getElem?_eq_some_iff.1 hcell).1)
 have hkeep : ∀ j, ok j → j < w.heap.size → W.heap[j]? = w.heap[j]? := fun j hj hlt => HG0.out.block j hlt (by simp)
 have HS := Lib.hid (HS0.out.keep hkeep)
 have HO := Lib.hid (HO0.out.keep hkeep)
 have HAP := Lib.hid (show ∀ j, ok j → ¬ (B j ∧ j ≠ w.heap.size) ∧ j ≠ b from fun j hj => ⟨fun h => (HH.out.apart j hj).1 h.1, (HH.out.apart j hj).2⟩)
 have HV := Lib.hid (show W.cell? ⟨g, 0, none⟩ = some (.slice V0 b0.len d0) from (cell_of_block' (hkeep g hokg HGL.out)).trans HV0.out)
 have HC := Lib.hid hcell
 have HCO := Lib.hid (show u + (1 + b0.count) * (1 + (s.ch.size - s.at_)) ≤ 1680 from by
  have := HH.out.cost
  have h2 : (1 + b0.count) * (1 + (s.ch.size - s.at_)) ≤ (1 + b0.count + b1.count) * (1 + (s.ch.size - s.at_)) := Nat.mul_le_mul (by omega) (Nat.le_refl _)
  omega)
 clear hW hcell hkeep
 go_loopw [] (fun wr => ∃ s1 nv1 u1, LRel W b (fun j => B j ∧ j ≠ w.heap.size) s nv u b0.count w.heap.size (.cells #[.int .u8 42, .int .i64 i.at_, .int .i64 i.end_, .string i.vars, .slice (some ⟨g, 0, none⟩) 1 c, .string i.scope] 82 (0, 0)) s1 nv1 u1 wr) (fun wr => s.ch.size - (intOf ((wr.cell? ⟨b, 1, none⟩).getD undef)).toNat)
 case atStart => 
  have hnv := HH.out.mid.used.nv
  exact ⟨s, nv, u + 1, M0.out.count, rfl, Nat.le_refl _, by simp, ⟨by omega, by omega⟩, Save.refl _ _, by omega, HC.out⟩
 case round =>
  obtain ⟨s1, nv1, u1, hL⟩ := hrel
  have HL := Lib.hid hL
  clear hL
  go_wp2_with fail
  refine Calls.mono (ends_any wr b s1 HL.out.mid.run) ?_
  rintro e wx ⟨rfl, hwx⟩
  rw [hwx]
  clear hwx wx
  have c1 := HL.out.mid.run.c1
  cases hends : s1.ends
  ·clear hends
   go_wp2_with fail
   refine Calls.mono (take_any wr b s1 ⟨#[101, 109]⟩ HL.out.mid.run (by decide) (by have := HL.out.mid.ch; omega) (by have := HL.out.mid.ch; have := HL.out.mid.at_; omega)) ?_
   rintro e w1 ⟨hg1, ⟨asked, ha, rfl, hr1⟩ | ⟨hlt, rfl, hr1⟩⟩
   ·have HM1 := Lib.hid (HL.out.mid.turn hr1 hg1 rfl rfl rfl rfl HL.out.mid.at_ rfl (by
     rcases ha with e | e
     ·right; show asked.size = 2; rw [e]; rfl
     ·show asked.size = 0 ∨ asked.size = 2; rw [e]; exact HL.out.mid.ask))
    have HG1 := Lib.hid hg1
    clear hr1 hg1 ha
    go_wp2_with fail
    go_end0
    exact HL.out.done (Nat.le_add_right _ _) HG0.out HM1.out rfl (Nat.le_refl _) rfl HG1.out
   ·have HM1 := Lib.hid (HL.out.mid.turn hr1 hg1 rfl rfl rfl rfl hlt rfl HL.out.mid.ask)
    have HG1 := Lib.hid hg1
    have HLT := Lib.hid hlt
    have hc1 : w1.heap[w.heap.size]? = some (.cells #[.int .u8 42, .int .i64 i.at_, .int .i64 i.end_, .string i.vars, .slice (some ⟨g, 0, none⟩) 1 c, .string i.scope] 82 (0, 0)) := (hg1.block _ (Array.getElem?_eq_some_iff.1 HL.out.box).1 (fun e => hbg (Option.some.inj e))).trans HL.out.box
    have HC1 := Lib.hid hc1
    have n4 : w1.cell? ⟨w.heap.size, 4, none⟩ = some (.slice (some ⟨g, 0, none⟩) 1 c) := by simp [World.cell?, hc1]
    have hkeep : ∀ j, ok j → j < W.heap.size → w1.heap[j]? = W.heap[j]? := fun j hj hlt => (hg1.block j (Nat.lt_of_lt_of_le hlt HL.out.save.size) (fun e => (HAP.out j hj).2 (Option.some.inj e))).trans (HL.out.save.block j hlt (fun e => e.elim (HAP.out j hj).2 (HAP.out j hj).1))
    have n0 : w1.cell? ⟨g, 0, none⟩ = some (.slice V0 b0.len d0) := (cell_of_block' (hkeep g hokg (World.block_lt_of_cell? W _ HV.out))).trans HV.out
    have hch := HL.out.ch
    have B0 := Lib.hid (H0.out w1 b _ _ nv1 u1 ok _ cs0 HM1.out HL.out.nvs (HS.out.keep hkeep) (HO.out.keep hkeep) HAP.out (by
     show u1 + b0.count * (1 + (s1.ch.size - (s1.at_ + 1))) ≤ 1680
     rw [hch]
     exact round_cost HCO.out HL.out.at_ (by rw [← hch]; exact hlt) HL.out.use))
    generalize hx : s1.ch[s1.at_].toNat = x at *
    clear hx hlt hg1 hr1 hc1 hkeep hch c1
    by_cases hx1 : x = 109
    ·subst hx1
     go_wp2_with fail
     refine Calls.mono B0.out ?_
     rintro e w2 ⟨s2, nv2, u2, rfl, M2, hch2, ha2, hu2, hn2, hs2⟩
     have HM2 := Lib.hid M2
     have HX := Lib.hid (And.intro hch2 (And.intro ha2 (And.intro hu2 (And.intro hn2 hs2))))
     clear M2 hch2 ha2 hu2 hn2 hs2 n0 n4
     go_wp2_with fail
     go_roundw
     case rel =>
      obtain ⟨hch2, ha2, hu2, hn2, hs2⟩ := HX.out
      have hL := HL.out
      have ha2' : s1.at_ + 1 ≤ s2.at_ := ha2
      have hch2' : s2.ch = s1.ch := hch2
      have hn2' : nv2 + 2 * u1 + 0 ≤ nv1 + 2 * u2 ∧ s2.ev.size + 500 * u1 ≤ s1.ev.size + 500 * u2 := hn2
      have hr := hL.rel
      have hn := hL.nvs
      exact ⟨s2, nv2, u2, HM2.out, hch2'.trans hL.ch, Nat.le_trans hL.at_ (by omega), loop_budget hL.at_ ha2' hL.use hu2, ⟨by omega, by omega⟩, hL.save.join ((Save.at_ HG1.out).join hs2), by omega, (hs2.block _ (Array.getElem?_eq_some_iff.1 HC1.out).1 (fun e => e.elim hbg (fun h => h.2 rfl))).trans HC1.out⟩
     case measure =>
      obtain ⟨hch2, ha2, hu2, hn2, hs2⟩ := HX.out
      have ha2' : s1.at_ + 1 ≤ s2.at_ := ha2
      rw [HL.out.mid.run.c1, HM2.out.run.c1]
      have h1 := HLT.out
      rw [HL.out.ch] at h1
      show s.ch.size - s2.at_ < s.ch.size - s1.at_
      omega
    ·have hd : ((x : Int) == 109) = false := by simp; omega
     clear hx1
     go_wp2_with fail
     go_end0
     exact HL.out.done (Nat.le_add_right _ _) HG0.out HM1.out rfl (Nat.le_succ _) rfl HG1.out
  ·clear hends
   go_wp2_with fail
   go_end0
   exact HL.out.done (Nat.le_add_right _ _) HG0.out HL.out.mid rfl (Nat.le_refl _) rfl (World.grownBy.refl _ _)
set_option maxHeartbeats 1600000 in
set_option maxRecDepth 100000 in
theorem within_none (i : Inf) (bs : Value) (w : World) (b : Nat) (B : Nat → Prop) (s : RunS) (nv u m : Nat) (H : Mid w b B s nv u) (h1 : i.kind ≠ 63) (h2 : i.kind ≠ 42) (h3 : i.kind ≠ 123) :
  Calls Tryd.prog 68 #[.pointer (some ⟨b, 0, none⟩), aggOf i bs] w (WPost w b B s nv u (1 + m)) := by
 have hn : ∀ n : Nat, n < 256 → i.kind ≠ UInt8.ofNat n → i.kind.toNat ≠ n := fun n hn h e => h (by rw [← e]; simp)
 have b1 : ((i.kind.toNat : Int) == 63) = false := by have := hn 63 (by omega) h1; simp; omega
 have b2 : ((i.kind.toNat : Int) == 42) = false := by have := hn 42 (by omega) h2; simp; omega
 have b3 : ((i.kind.toNat : Int) == 123) = false := by have := hn 123 (by omega) h3; simp; omega
 have HM := Lib.hid H
 unfold aggOf at *
 clear hn h1 h2 h3 H
 generalize hKK : (i.kind.toNat : Int) = K at *
 clear hKK
 go_enter Tryd.func68, Tryd.ntmps68
 go_wp2_with fail
 generalize hW : w.alloc (.cells #[.int .u8 K, .int .i64 i.at_, .int .i64 i.end_, .string i.vars, bs, .string i.scope] 82) = W
 have hg := (show w.grownBy W none by rw [← hW]; exact World.grownBy_alloc w _ none)
 have hlt : w.heap.size < W.heap.size := by rw [← hW]; exact (Array.getElem?_eq_some_iff.1 (heap_alloc_new w _)).1
 clear hW
 go_end0
 exact mid_end (HM.out.box hg hlt).count rfl (Nat.le_refl _) (Nat.le_add_right _ _) hg (World.grownBy.refl _ _)
theorem Mid.grown0 {w W : World} {b : Nat} {B : Nat → Prop} {s : RunS} {nv u : Nat} (M : Mid w b B s nv u) (hg : w.grownBy W none) : Mid W b B s nv u :=
 ⟨M.run.grown hg (by simp), M.own.grown0 hg, M.used, M.le, M.at_, M.ch, M.ask, fun j hj => M.sz j (Nat.le_trans hg.size hj)⟩
theorem BPost.from {w W w' : World} {b : Nat} {B : Nat → Prop} {s : RunS} {nv u c k : Nat} {e : Ending} (h : BPost W b B s nv u c k e w') (hg : w.grownBy W none) : BPost w b B s nv u c k e w' := by
 obtain ⟨s2, nv2, u2, rfl, M, hc2, ha2, hu2, hn2, hs2⟩ := h
 exact ⟨s2, nv2, u2, rfl, M, hc2, ha2, hu2, hn2, (Save.none hg _).join hs2⟩
theorem step_any (i : Inf) (b0 b1 : T) (h0 : BodyC b0) (h1 : BodyC b1) (w : World) (b : Nat) (B : Nat → Prop) (s : RunS) (nv u : Nat) (ok : Nat → Prop) (A : Option Addr) (c : Nat)
  (H : WithC w b B s nv u i b0 b1 ok A c) :
  Calls Tryd.prog 51 #[.pointer (some ⟨b, 0, none⟩), aggOf i (.slice A i.nb c)] w (BPost w b B s nv u (1 + (b0.count + b1.count)) 1) := by
 have hu : u ≤ 1680 := by have := H.cost; omega
 have up : ∀ {e w'}, BPost w b B s nv u 1 1 e w' → BPost w b B s nv u (1 + (b0.count + b1.count)) 1 e w' := fun h => h.weak (by omega) (Nat.le_refl _)
 by_cases k0 : i.kind = 43
 ·exact (step_plus w b B s nv u i _ H.mid H.nok k0 hu).mono (fun _ _ h => up h)
 by_cases k1 : i.kind = 61
 ·exact (step_give w b B s nv u i _ H.mid H.nok k1 hu).mono (fun _ _ h => up h)
 by_cases k2 : i.kind = 46
 ·exact (step_dot w b B s nv u i _ H.mid H.nok k2 hu).mono (fun _ _ h => up h)
 by_cases k3 : i.kind = 45
 ·exact (step_minus w b B s nv u i _ H.mid H.nok k3 hu).mono (fun _ _ h => up h)
 by_cases k4 : i.kind = 126
 ·exact (step_tilde w b B s nv u i _ H.mid H.nok k4 hu).mono (fun _ _ h => up h)
 by_cases k5 : i.kind = 94
 ·exact (step_leave w b B s nv u i _ H.mid H.nok k5 hu).mono (fun _ _ h => up h)
 by_cases k6 : i.kind = 33
 ·exact (step_fail w b B s nv u i _ H.mid H.nok k6 hu).mono (fun _ _ h => up h)
 refine step_within w b B s i _ H.mid.run.lt _ ⟨k0, k1, k2, k3, k4, k5, k6⟩ ?_
 intro W hg
 have HW : WithC W b B s nv u i b0 b1 ok A c := ⟨H.mid.grown0 hg, H.nok, H.bodies.keep (fun j hj hlt => hg.block j hlt (by simp)), H.apart, H.cost⟩
 have fin : ∀ e w', WPost W b B s nv u (1 + (b0.count + b1.count)) e w' → (e = .returned (.tuple #[]) ∧ BPost w b B s nv u (1 + (b0.count + b1.count)) 1 e w') := fun e w' h => ⟨h.1, h.2.from hg⟩
 by_cases k7 : i.kind = 63
 ·exact (within_quest i b0 b1 h0 h1 W b B s nv u ok A c HW k7 (by rw [k7]; rfl)).mono fin
 by_cases k8 : i.kind = 42
 ·exact (within_loop i b0 b1 h0 W b B s nv u ok A c HW k8 (by rw [k8]; rfl)).mono fin
 by_cases k9 : i.kind = 123
 ·exact (within_scope i b0 b1 h0 W b B s nv u ok A c HW k9 (by rw [k9]; rfl)).mono fin
 exact (within_none i _ W b B s nv u _ HW.mid k7 k8 k9).mono fin
theorem six_of {w : World} {g n cap k : Nat} {cs : List Value} {i : Inf} {bs : Value} (h : w.ownsRow 0 82 6 (.slice (some ⟨g, 0, none⟩) n cap) n cs) (hk : k < n) (h6 : (cs.drop (k * 6)).take 6 = six i bs) : Six w g k i bs := by
 have hat : ∀ q, q < 6 → w.cell? ⟨g, k * 6 + q, none⟩ = (six i bs)[q]? := fun q hq => by
  rw [World.ownsRow.cellAt h (k * 6 + q) (by omega), ← h6, List.getElem?_take_of_lt hq, List.getElem?_drop]
 exact ⟨hat 0 (by omega), hat 1 (by omega), hat 2 (by omega), hat 3 (by omega), hat 4 (by omega), hat 5 (by omega)⟩
theorem selem_at {w : World} {ok : Nat → Prop} {r : T} {cs : List Value} {B : Option Addr} {n d k : Nat} (hP : SCells w ok r (cs.drop (k * 6))) (hO : Own6 w ok (.slice B n d) n cs) (hk : k < n) :
  ∃ gb i b0 b1 r' A c, B = some ⟨gb, 0, none⟩ ∧ r = .cons i b0 b1 r' ∧ Six w gb k i (.slice A i.nb c) ∧ SCells w ok (.cons i b0 b1 .nil) (six i (.slice A i.nb c)) ∧ SCells w ok r' (cs.drop ((k + 1) * 6)) ∧ ok gb := by
 have hl := hO.row.1
 obtain ⟨i, b0, b1, r', A, c, hr, h6, h1, h2⟩ := scells_cons hP (by rw [List.length_drop]; omega)
 rcases hO.row.2 with ⟨hv, hn⟩ | ⟨g, cap, cur, hv, _⟩
 ·omega
 ·injection hv with e1 e2 e3
  subst e1
  refine ⟨g, i, b0, b1, r', A, c, rfl, hr, six_of hO.row hk h6, h1, ?_, hO.let_ g rfl⟩
  rw [List.drop_drop] at h2
  rw [show (k + 1) * 6 = k * 6 + 6 by omega]
  exact h2
theorem scells_end {w : World} {ok : Nat → Prop} {r : T} {cs : List Value} {n k : Nat} (hl : cs.length = n * 6) (hk : k = n) (h : SCells w ok r (cs.drop (k * 6))) : r = .nil := by
 rw [hk, ← hl, List.drop_length] at h
 exact scells_nil h
theorem len_count : ∀ t : T, t.len ≤ t.count
 | .nil => Nat.le_refl _
 | .cons i b0 b1 r => by
  have := len_count r
  simp only [T.len, T.count]
  omega
structure BRel (w : World) (b : Nat) (B : Nat → Prop) (s : RunS) (nv u : Nat) (ok : Nat → Prop) (t : T) (v : Value) (cs : List Value) (k : Nat) (r : T) (d : Nat) (s1 : RunS) (nv1 u1 : Nat) (wr : World) : Prop where
 mid : Mid wr b B s1 nv1 u1
 ch : s1.ch = s.ch
 at_ : s.at_ ≤ s1.at_
 use : u1 ≤ u + d * (1 + (s1.at_ - s.at_))
 rel : nv1 + 2 * u ≤ nv + 2 * u1 ∧ s1.ev.size + 500 * u ≤ s.ev.size + 500 * u1
 save : Save w wr (fun j => j = b ∨ B j)
 nvs : nv1 ≤ 2 * u1
 row : Own6 wr ok v t.len cs
 rest : SCells wr ok r (cs.drop (k * 6))
 cnt : d + r.count = t.count
 rok : ROk r
theorem node_cost {u u1 n d m C a a1 : Nat} (h : u + (d + (n + m)) * (1 + (C - a)) ≤ 1680) (ha : a ≤ a1) (hc : a1 ≤ C) (hu : u1 ≤ u + d * (1 + (a1 - a))) : u1 + n * (1 + (C - a1)) ≤ 1680 := by
 have h1 := seq_budget (u2 := u1 + n * (1 + (C - a1))) ha hc hu (Nat.le_refl _)
 have h2 : (d + n) * (1 + (C - a)) ≤ (d + (n + m)) * (1 + (C - a)) := Nat.mul_le_mul (by omega) (Nat.le_refl _)
 omega
set_option maxHeartbeats 1600000 in
set_option maxRecDepth 100000 in
theorem rows_step (t : T) (hrok : ROk t) (ih : ∀ i b0 b1 r, ROk (.cons i b0 b1 r) → (T.cons i b0 b1 r).count ≤ t.count → BodyC b0 ∧ BodyC b1) : BodyC t := by
 intro w b B s nv u ok v cs hm hnv hc ho hap hcost
 obtain ⟨A, c, rfl⟩ := ho.form
 have HM := Lib.hid hm
 have HC := Lib.hid hc
 have HO := Lib.hid ho
 have HAP := Lib.hid hap
 have HCO := Lib.hid hcost
 have HROK := Lib.hid hrok
 have IH := Lib.hid ih
 have hlc := len_count t
 have hlen := ho.row.1
 have HLen := Lib.hid hlen
 have hcs : s.ch.size ≤ 20 := hm.ch
 have hco2 : t.count ≤ 1680 := by
  have h := Nat.le_mul_of_pos_right t.count (show 0 < 1 + (s.ch.size - s.at_) by omega)
  omega
 clear hm hc ho hap hcost hrok ih hlen hcs
 go_enter Tryd.func41, Tryd.ntmps41
 go_wp2_with fail
 go_loopw [8] (fun i wr => ∃ k r d s1 nv1 u1, k ≤ t.len ∧ i = .int .i64 (k : Int) ∧ BRel w b B s nv u ok t (.slice A t.len c) cs k r d s1 nv1 u1 wr) (fun i _ => t.len - (intOf i).toNat)
 case atStart =>
  exact ⟨0, t, 0, s, nv, u, Nat.zero_le _, rfl, HM.out, rfl, Nat.le_refl _, by simp, ⟨Nat.le_refl _, Nat.le_refl _⟩, Save.refl _ _, hnv, HO.out, HC.out, by simp, HROK.out⟩
 case round =>
  obtain ⟨k, r, d, s1, nv1, u1, hk, rfl, hL⟩ := hrel
  have HL := Lib.hid hL
  by_cases hlt : k < t.len
  ·obtain ⟨gb, i, b0, b1, r2, A2, c2, rfl, rfl, hsix, hp1, hp2, hokg⟩ := selem_at hL.rest hL.row hlt
   obtain ⟨s0, s1', s2', s3, s4, s5⟩ := hsix
   have HP1 := Lib.hid hp1
   have HP2 := Lib.hid hp2
   have hcnt := hL.cnt
   simp only [T.count] at hcnt
   have HCNT := Lib.hid hcnt
   have hIH := IH.out i b0 b1 r2 hL.rok (by simp only [T.count]; omega)
   have HIH := Lib.hid hIH
   clear hL hp1 hp2 hcnt hIH
   go_wp2_with fail
   generalize hW : wr.alloc (.cells #[.int .u8 i.kind.toNat, .int .i64 i.at_, .int .i64 i.end_, .string i.vars, .slice A2 i.nb c2, .string i.scope] 82) = W
   have HG0 := Lib.hid (show wr.grownBy W none by rw [← hW]; exact World.grownBy_alloc wr _ none)
   have hcell : W.heap[wr.heap.size]? = some (.cells #[.int .u8 i.kind.toNat, .int .i64 i.at_, .int .i64 i.end_, .string i.vars, .slice A2 i.nb c2, .string i.scope] 82 (0, 0)) := by rw [← hW]; exact heap_alloc_new wr _
   have HC0 := Lib.hid hcell
   have MW := Lib.hid (HL.out.mid.grown0 HG0.out)
   have hblt : b < wr.heap.size := HL.out.mid.run.lt
   have hbg : wr.heap.size ≠ b := by omega
   clear hW hcell s0 s1' s2' s3 s4 s5 hblt
   refine Calls.mono (ends_any W b s1 MW.out.run) ?_
   rintro e wx ⟨rfl, hwx⟩
   rw [hwx]
   clear hwx wx
   cases hends : s1.ends
   ·clear hends
    have n1 : W.cell? ⟨wr.heap.size, 1, none⟩ = some (.int .i64 i.at_) := by simp [World.cell?, HC0.out]
    have n5 : W.cell? ⟨wr.heap.size, 5, none⟩ = some (.string i.scope) := by simp [World.cell?, HC0.out]
    have hnok : NOk i := HL.out.rok.1
    have HNOK := Lib.hid hnok
    have hu1 : u1 ≤ 1680 := by
     have h := node_cost (n := 0) (m := t.count - d) (d := d) (C := s.ch.size) (a := s.at_) (a1 := s1.at_) (u1 := u1) (by have h1 := HCO.out; have h2 := HCNT.out; rw [show d + (0 + (t.count - d)) = t.count by omega]; exact h1) HL.out.at_ (by rw [← HL.out.ch]; exact HL.out.mid.at_) HL.out.use
     omega
    have hnv1 := HL.out.nvs
    go_wp2_with fail
    refine Calls.mono (visit_any W b s1 i.at_ i.scope nv1 _ MW.out.run hnok.sl (by have := hnok.ss; omega) MW.out.own (fun h => h.2 rfl) (by omega)) ?_
    rintro e w2 ⟨v2, rfl, hr2, ho2, hs2⟩
    have hb2 : s1.vis.ownBlock ≠ some wr.heap.size := fun e => by
     obtain ⟨xs, _, hl⟩ := HL.out.mid.own.bound
     have := (hl _ e).2
     omega
    have hc2 : w2.heap[wr.heap.size]? = some (.cells #[.int .u8 i.kind.toNat, .int .i64 i.at_, .int .i64 i.end_, .string i.vars, .slice A2 i.nb c2, .string i.scope] 82 (0, 0)) := (hs2.block _ (Array.getElem?_eq_some_iff.1 HC0.out).1 (fun e => e.elim hbg hb2)).trans HC0.out
    have q0 : w2.cell? ⟨wr.heap.size, 0, none⟩ = some (.int .u8 i.kind.toNat) := by simp [World.cell?, hc2]
    have q1 : w2.cell? ⟨wr.heap.size, 1, none⟩ = some (.int .i64 i.at_) := by simp [World.cell?, hc2]
    have q2 : w2.cell? ⟨wr.heap.size, 2, none⟩ = some (.int .i64 i.end_) := by simp [World.cell?, hc2]
    have q3 : w2.cell? ⟨wr.heap.size, 3, none⟩ = some (.string i.vars) := by simp [World.cell?, hc2]
    have q4 : w2.cell? ⟨wr.heap.size, 4, none⟩ = some (.slice A2 i.nb c2) := by simp [World.cell?, hc2]
    have q5 : w2.cell? ⟨wr.heap.size, 5, none⟩ = some (.string i.scope) := by simp [World.cell?, hc2]
    have HM2 := Lib.hid (MW.out.visited hr2 ho2 hs2 hnv1)
    have HS2 := Lib.hid ((Save.none HG0.out _).join (Save.visited MW.out hs2))
    have hkeep : ∀ j, ok j → j < wr.heap.size → w2.heap[j]? = wr.heap[j]? := fun j hj hlt => HS2.out.block j hlt (fun e => e.elim (HAP.out j hj).2 (HAP.out j hj).1)
    obtain ⟨A3, c3, e3, hnb, hbod⟩ := sstep_parts HP1.out
    injection e3 with e31 e32 e33
    subst e31 e33
    have HWC := Lib.hid (show WithC w2 b B { s1 with vis := v2 } (nv1 + 1) u1 i b0 b1 ok A2 c2 from ⟨HM2.out, HNOK.out, hbod.keep hkeep, HAP.out, by
     have h1 := HCO.out
     have h2 := HCNT.out
     have h3 := node_cost (n := 1 + b0.count + b1.count) (m := r2.count) (d := d) (C := s.ch.size) (a := s.at_) (a1 := s1.at_) (u1 := u1) (by rw [h2]; exact h1) HL.out.at_ (by rw [← HL.out.ch]; exact HL.out.mid.at_) HL.out.use
     show u1 + (1 + b0.count + b1.count) * (1 + (s1.ch.size - s1.at_)) ≤ 1680
     rw [HL.out.ch]
     exact h3⟩)
    clear hr2 ho2 hs2 hb2 hc2 n1 n5 hkeep e32 hbod hnb hnok
    go_wp2_with fail
    refine Calls.mono (step_any i b0 b1 HIH.out.1 HIH.out.2 w2 b B _ (nv1 + 1) u1 ok A2 c2 HWC.out) ?_
    rintro e w3 ⟨s3, nv3, u3, rfl, M3, hch3, ha3, hu3, hn3, hs3⟩
    have HM3 := Lib.hid M3
    have HX := Lib.hid (And.intro hch3 (And.intro ha3 (And.intro hu3 (And.intro hn3 hs3))))
    clear M3 hch3 ha3 hu3 hn3 hs3 q0 q1 q2 q3 q4 q5
    go_wp2_with fail
    go_roundw
    case rel =>
     obtain ⟨hch3, ha3, hu3, hn3, hs3⟩ := HX.out
     have hL := HL.out
     have ha3' : s1.at_ ≤ s3.at_ := ha3
     have hch3' : s3.ch = s1.ch := hch3
     have hn3' : nv3 + 2 * u1 + 1 ≤ nv1 + 1 + 2 * u3 ∧ s3.ev.size + 500 * u1 ≤ s1.ev.size + 500 * u3 := hn3
     have hr := hL.rel
     have hS := HS2.out.join hs3
     have hcnt := HCNT.out
     exact ⟨k + 1, r2, d + (1 + (b0.count + b1.count)), s3, nv3, u3, hlt, by go_num, HM3.out, hch3'.trans hL.ch, Nat.le_trans hL.at_ ha3', seq_budget hL.at_ ha3' hL.use hu3, ⟨by omega, by omega⟩, hL.save.join hS, by omega, row6_kept hL.row HAP.out hS, tree_kept HP2.out HAP.out hS, by omega, hL.rok.2.2.2⟩
    case measure => simp [intOf]; omega
   ·clear hends
    go_wp2_with fail
    go_end0
    have hL := HL.out
    have hcnt := HCNT.out
    exact ⟨s1, nv1, u1, rfl, MW.out, hL.ch, hL.at_, Nat.le_trans hL.use (Nat.add_le_add_left (Nat.mul_le_mul (by omega) (Nat.le_refl _)) _), ⟨by have := hL.rel; omega, hL.rel.2⟩, hL.save.join (Save.none HG0.out _)⟩
  ·have hkn : k = t.len := by omega
   have hr0 : r = .nil := scells_end HLen.out hkn hL.rest
   subst hr0
   clear hL
   go_wp2_with fail
   go_end0
   have hL := HL.out
   have hcnt := hL.cnt
   simp only [T.count, Nat.add_zero] at hcnt
   exact ⟨s1, nv1, u1, rfl, hL.mid, hL.ch, hL.at_, by rw [← hcnt]; exact hL.use, ⟨by have := hL.rel; omega, hL.rel.2⟩, hL.save⟩
theorem rows_any : ∀ (n : Nat) (t : T), t.count ≤ n → ROk t → BodyC t := by
 intro n
 induction n with
 | zero =>
  intro t hn hr
  refine rows_step t hr (fun i b0 b1 r _ h => ?_)
  simp only [T.count] at h
  omega
 | succ n ihn =>
  intro t hn hr
  refine rows_step t hr (fun i b0 b1 r h hc => ?_)
  simp only [T.count] at hc
  exact ⟨ihn b0 (by omega) h.2.1, ihn b1 (by omega) h.2.2.1⟩
def run0 (ch : ByteArray) (v : Value) : RunS := { ch := ch, at_ := 0, V := fun _ => 0, made := 0, ev := ⟨#[]⟩, exit := 0, wh := -1, stuck := false, asked := ⟨#[]⟩, vis := v }
def RunPost (w : World) (e : Ending) (w' : World) : Prop :=
 ∃ (b : Nat) (s : RunS) (x : Bool), e = .returned (.tuple #[.pointer (some ⟨b, 0, none⟩), .bool x]) ∧ Below w.heap.size w w' ∧ w.heap.size ≤ b ∧ Run w' b s ∧ s.ev.size ≤ 840000 ∧ (s.asked.size = 0 ∨ s.asked.size = 2)
theorem run_box {w : World} {v : Value} {ch : ByteArray} {o1 o2 : Obj} : Run (((w.alloc o1).alloc o2).alloc (.cells (cellsOf (run0 ch v)) 69)) (w.heap.size + 1 + 1) (run0 ch v) := by
 have h := heap_alloc_new ((w.alloc o1).alloc o2) (.cells (cellsOf (run0 ch v)) 69)
 have hs : ((w.alloc o1).alloc o2).heap.size = w.heap.size + 1 + 1 := by
  show ((w.heap.push _).push _).size = _
  rw [Array.size_push, Array.size_push]
 rw [hs] at h
 exact h
theorem grown3 (w : World) (o1 o2 o3 : Obj) : w.grownBy (((w.alloc o1).alloc o2).alloc o3) none := World.grownBy.trans (World.grownBy.trans (World.grownBy_alloc w o1 none) (World.grownBy_alloc _ o2 none)) (World.grownBy_alloc _ o3 none)
structure Begun (w1 W : World) (ch : ByteArray) (i : Inf) (bs : Value) : Prop where
 grown : w1.grownBy W none
 size : W.heap.size = w1.heap.size + 4
 run : Run W (w1.heap.size + 1 + 1) (run0 ch (.slice (some ⟨w1.heap.size + 1, 0, none⟩) 0 0))
 vis : W.heap[w1.heap.size + 1]? = some (.cells #[] 115 (0, 0))
 row : W.heap[w1.heap.size + 1 + 1 + 1]? = some (.cells (six i bs).toArray 82 (0, 0))
theorem begun (w1 : World) (ch : ByteArray) (i : Inf) (bs : Value) (o1 : Obj) :
  Begun w1 ((((w1.alloc o1).alloc (.cells #[] 115)).alloc (.cells (cellsOf (run0 ch (.slice (some ⟨w1.heap.size + 1, 0, none⟩) 0 0))) 69)).alloc (.cells (six i bs).toArray 82)) ch i bs := by
 have e : ∀ o2 o3 o4 : Obj, ((((w1.alloc o1).alloc o2).alloc o3).alloc o4).heap = (((w1.heap.push o1).push o2).push o3).push o4 := fun _ _ _ => rfl
 refine ⟨World.grownBy.trans (grown3 w1 _ _ _) (World.grownBy_alloc _ _ none), ?_, ?_, ?_, ?_⟩
 ·rw [e]; simp only [Array.size_push]
 ·exact (run_box (w := w1) (v := .slice (some ⟨w1.heap.size + 1, 0, none⟩) 0 0) (ch := ch) (o1 := o1) (o2 := .cells #[] 115)).grown (World.grownBy_alloc _ _ none) (by simp)
 ·exact far_of (World.grownBy_alloc _ _ none) (far_of (World.grownBy_alloc _ _ none) (heap_alloc_next w1 o1 (.cells #[] 115)) (by simp)) (by simp)
 ·have h := heap_alloc_new (((w1.alloc o1).alloc (.cells #[] 115)).alloc (.cells (cellsOf (run0 ch (.slice (some ⟨w1.heap.size + 1, 0, none⟩) 0 0))) 69)) (.cells (six i bs).toArray 82)
  have hs : (((w1.alloc o1).alloc (.cells #[] 115)).alloc (.cells (cellsOf (run0 ch (.slice (some ⟨w1.heap.size + 1, 0, none⟩) 0 0))) 69)).heap.size = w1.heap.size + 1 + 1 + 1 := by
   show (((w1.heap.push _).push _).push _).size = _
   rw [Array.size_push, Array.size_push, Array.size_push]
  rw [hs] at h
  exact h
set_option maxHeartbeats 1600000 in
set_option maxRecDepth 100000 in
theorem run_any (p ch : ByteArray) (w : World) (hp : p.size ≤ 1048576) (hc : ch.size ≤ 1048576) : Calls Tryd.prog 35 #[.string p, .string ch] w (RunPost w) := by
 go_enter Tryd.func35, Tryd.ntmps35
 go_wp2_with fail
 refine (read_any p w hp).mono ?_
 rintro e w1 ⟨hb, h⟩
 rcases h with ⟨hs, rfl⟩ | ⟨i, b0, b1, bs, hs, rfl, hcc⟩
 ·have HB := Lib.hid hb
  clear hs hb
  unfold zeroSix
  go_wp2_with fail
  go_ret2
  exact ⟨w1.heap.size + 1 + 1, run0 ch (.slice (some ⟨w1.heap.size + 1, 0, none⟩) 0 0), false, rfl, HB.out.trans ((below_of (grown3 _ _ _ _)).mono HB.out.size), by have := HB.out.size; omega, run_box, Nat.zero_le _, .inl rfl⟩
 ·obtain ⟨A, c, rfl, hn2, hbod⟩ := sstep_parts hcc
  have HB := Lib.hid hb
  have HC := Lib.hid hcc
  have hI : IParse p = some (i, b0, b1) := by rw [← parse_eq]; exact hs
  have HROK := Lib.hid (parse_rok hI)
  have HCNT := Lib.hid (parse_count hI)
  have HBOD := Lib.hid hbod
  clear hs hb hcc hI hn2 hbod
  by_cases h20 : 20 < ch.size
  ·have hd : decide ((20 : Int) < (ch.size : Int)) = true := by simp; omega
   clear h20
   go_wp2_with fail
   go_ret2
   exact ⟨w1.heap.size + 1 + 1, run0 ch (.slice (some ⟨w1.heap.size + 1, 0, none⟩) 0 0), false, rfl, HB.out.trans ((below_of (grown3 _ _ _ _)).mono HB.out.size), by have := HB.out.size; omega, run_box, Nat.zero_le _, .inl rfl⟩
  ·have hd : decide ((20 : Int) < (ch.size : Int)) = false := by simp; omega
   have H20 := Lib.hid (show ch.size ≤ 20 by omega)
   clear h20
   go_wp2_with fail
   have HG := Lib.hid (begun w1 ch i (.slice A i.nb c) (.cells #[.int .u8 i.kind.toNat, .int .i64 i.at_, .int .i64 i.end_, .string i.vars, .slice A i.nb c, .string i.scope] 82))
   generalize hW : ((((w1.alloc (.cells #[.int .u8 i.kind.toNat, .int .i64 i.at_, .int .i64 i.end_, .string i.vars, .slice A i.nb c, .string i.scope] 82)).alloc (.cells #[] 115)).alloc (.cells (cellsOf (run0 ch (.slice (some ⟨w1.heap.size + 1, 0, none⟩) 0 0))) 69)).alloc (.cells (six i (.slice A i.nb c)).toArray 82)) = W at HG
   have HW := Lib.hid hW
   clear hW
   have M0 : Mid W (w1.heap.size + 1 + 1) (fun j => j = w1.heap.size + 1 ∨ W.heap.size ≤ j) (run0 ch (.slice (some ⟨w1.heap.size + 1, 0, none⟩) 0 0)) 0 0 :=
    ⟨HG.out.run, ⟨[], ⟨rfl, .inr ⟨w1.heap.size + 1, 0, #[], rfl, Nat.zero_le _, HG.out.vis, Nat.le_refl _, by simp [maxLen], rfl, rfl⟩⟩, fun j hj => by
     have : w1.heap.size + 1 = j := by simpa [run0, Value.ownBlock] using hj
     omega⟩, ⟨Nat.le_refl _, Nat.le_refl _, Nat.le_refl _⟩, fun _ => Nat.le_refl _, Nat.zero_le _, H20.out, .inl rfl, fun j hj => .inr hj⟩
   have hok : ∀ j, (j < w1.heap.size ∨ j = w1.heap.size + 1 + 1 + 1) → ¬ (j = w1.heap.size + 1 ∨ W.heap.size ≤ j) ∧ j ≠ w1.heap.size + 1 + 1 := fun j hj => by
    have := HG.out.size
    omega
   have hcells : SCells W (fun j => j < w1.heap.size ∨ j = w1.heap.size + 1 + 1 + 1) (.cons i b0 b1 .nil) (six i (.slice A i.nb c)) :=
    (HC.out.bound.mono (ok' := fun j => j < w1.heap.size ∨ j = w1.heap.size + 1 + 1 + 1) (fun j hj => .inl hj.2)).keep (fun j hj hlt => HG.out.grown.block j hlt (by simp))
   have hrow : Own6 W (fun j => j < w1.heap.size ∨ j = w1.heap.size + 1 + 1 + 1) (.slice (some ⟨w1.heap.size + 1 + 1 + 1, 0, none⟩) 1 1) 1 (six i (.slice A i.nb c)) :=
    ⟨⟨rfl, .inr ⟨w1.heap.size + 1 + 1 + 1, 1, _, rfl, Nat.zero_le _, HG.out.row, Nat.le_refl _, by simp [maxLen], rfl, rfl⟩⟩, fun j hj => by
     have : w1.heap.size + 1 + 1 + 1 = j := by simpa [Value.ownBlock] using hj
     exact .inr this.symm⟩
   have hcost : 0 + (T.cons i b0 b1 .nil).count * (1 + (ch.size - 0)) ≤ 1680 := by
    have : (T.cons i b0 b1 .nil).count * (1 + (ch.size - 0)) ≤ 80 * 21 := Nat.mul_le_mul HCNT.out (by have := H20.out; omega)
    omega
   have C0 := rows_any _ _ (Nat.le_refl _) HROK.out W _ _ _ 0 0 _ _ _ M0 (Nat.le_refl _) hcells hrow hok hcost
   rw [← HW.out] at C0
   have HC0 := Lib.hid C0
   clear M0 hok hcells hrow hcost C0
   refine HC0.out.mono ?_
   rintro e w2 ⟨s2, nv2, u2, rfl, M2, hch2, ha2, hu2, hn2, hs2⟩
   rw [HW.out] at hs2
   have HM := Lib.hid M2
   have hev : s2.ev.size ≤ 840000 := by
    have h1 := M2.used.evs
    have h2 : (T.cons i b0 b1 .nil).count * (1 + (s2.at_ - 0)) ≤ 80 * 21 := Nat.mul_le_mul HCNT.out (by have h3 := H20.out; have h4 := M2.at_; have h5 : s2.ch = ch := hch2; rw [h5] at h4; omega)
    have h6 : u2 ≤ 0 + (T.cons i b0 b1 .nil).count * (1 + (s2.at_ - 0)) := hu2
    omega
   have hbel : Below w.heap.size w w2 := HB.out.trans (Below.mono (B := w1.heap.size) ⟨hs2.os.trans HG.out.grown.os, hs2.tape.trans HG.out.grown.tape, hs2.output.trans HG.out.grown.output, Nat.le_trans HG.out.grown.size hs2.size, fun j hj => (hs2.block j (by have := HG.out.size; omega) (by have := HG.out.size; omega)).trans (HG.out.grown.block j hj (by simp))⟩ HB.out.size)
   have HBEL := Lib.hid hbel
   have HASK := Lib.hid M2.ask
   have hbn : w.heap.size ≤ w1.heap.size + 1 + 1 := by have := HB.out.size; omega
   have c1 := M2.run.c1
   have c10 := M2.run.c10
   have c12 := M2.run.c12
   have f10 := M2.run.fz 10
   have HR := Lib.hid M2.run
   clear M2 hch2 ha2 hu2 hn2 hs2 hbel
   generalize hst : s2.stuck = st at *
   generalize hex : s2.exit = ex at *
   generalize hat : s2.at_ = at2 at *
   clear hst hex hat
   by_cases he : ex = 0
   ·subst he
    have HR2 := Lib.hid (fun (n : Nat) => ((HR.out.setExit 1).heap (w' := (w2.setCell ⟨w1.heap.size + 1 + 1, 10, none⟩ (.int .i64 1)).drewN n) rfl))
    have HB2 := Lib.hid (fun (n : Nat) => HBEL.out.trans (Below.mono (B := w1.heap.size) (w' := (w2.setCell ⟨w1.heap.size + 1 + 1, 10, none⟩ (.int .i64 1)).drewN n) (w := w2) ⟨rfl, rfl, rfl, by simp, fun j hj => Below.heap_setCell w2 _ _ j (by simp; omega)⟩ (by have := HB.out.size; omega)))
    cases st
    ·go_wp2_with fail
     go_quiet (fail)
     go_wp2_with fail
     go_ret2
     exact ⟨_, _, _, rfl, HB2.out _, hbn, HR2.out _, hev, HASK.out⟩
    ·go_wp2_with fail
     go_quiet (fail)
     go_wp2_with fail
     go_ret2
     exact ⟨_, _, _, rfl, HB2.out _, hbn, HR2.out _, hev, HASK.out⟩
   ·have hd : (ex == 0) = false := by simpa using he
    have HR2 := Lib.hid (fun (n : Nat) => (HR.out.heap (w' := w2.drewN n) rfl))
    have HB2 := Lib.hid (fun (n : Nat) => HBEL.out.trans (Below.mono (B := w1.heap.size) (w' := w2.drewN n) (w := w2) ⟨rfl, rfl, rfl, by simp, fun j hj => rfl⟩ (by have := HB.out.size; omega)))
    clear he
    cases st
    ·go_wp2_with fail
     go_quiet (fail)
     go_wp2_with fail
     go_ret2
     exact ⟨_, _, _, rfl, HB2.out _, hbn, HR2.out _, hev, HASK.out⟩
    ·go_wp2_with fail
     go_quiet (fail)
     go_wp2_with fail
     go_ret2
     exact ⟨_, _, _, rfl, HB2.out _, hbn, HR2.out _, hev, HASK.out⟩
end Go.Proofs.YtojhdfdhfajjjaaDoor
