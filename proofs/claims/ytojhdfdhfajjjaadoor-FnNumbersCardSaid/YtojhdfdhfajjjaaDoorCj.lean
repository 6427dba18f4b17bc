/- Cj: texts of this proof, joined. -/
import Derived.Test.YtojhdfdhfajjjaaDoorCa
import Derived.Test.YtojhdfdhfajjjaaDoorCb
import Derived.Test.YtojhdfdhfajjjaaDoorCc
import Derived.Test.YtojhdfdhfajjjaaDoorCd
import Derived.Test.YtojhdfdhfajjjaaDoorCe
import Derived.Test.YtojhdfdhfajjjaaDoorCf
import Derived.Test.YtojhdfdhfajjjaaDoorCg
import Derived.Test.YtojhdfdhfajjjaaDoorCh
import Derived.Test.YtojhdfdhfajjjaaDoorCi
namespace Go.Proofs.YtojhdfdhfajjjaaDoor
set_option linter.unusedVariables false
set_option linter.unusedSimpArgs false
open Go.RowKit Pl
structure Mid (w : World) (b : Nat) (B : Nat → Prop) (s : RunS) (nv u : Nat) : Prop where
 run : Run w b s
 own : OwnV w (fun j => B j ∧ j ≠ b) s.vis nv
 used : Used u s.made s.ev.size (nv - 1)
 le : ∀ k, s.V k ≤ s.made
 at_ : s.at_ ≤ s.ch.size
 ch : s.ch.size ≤ 20
 ask : s.asked.size = 0 ∨ s.asked.size = 2
 sz : ∀ j, w.heap.size ≤ j → B j
def BPost (w : World) (b : Nat) (B : Nat → Prop) (s : RunS) (nv u c k : Nat) (e : Ending) (w' : World) : Prop :=
 ∃ s' nv' u', e = .returned (.tuple #[]) ∧ Mid w' b B s' nv' u' ∧ s'.ch = s.ch ∧ s.at_ ≤ s'.at_ ∧ u' ≤ u + c * (1 + (s'.at_ - s.at_)) ∧ (nv' + 2 * u + k ≤ nv + 2 * u' ∧ s'.ev.size + 500 * u ≤ s.ev.size + 500 * u') ∧ Save w w' (fun j => j = b ∨ B j)
theorem Save.refl (w : World) (S : Nat → Prop) : Save w w S := ⟨rfl, rfl, rfl, Nat.le_refl _, fun _ _ _ => rfl⟩
theorem Save.join {a b c : World} {S : Nat → Prop} (h : Save a b S) (k : Save b c S) : Save a c S := h.trans k (fun _ _ s => s) (fun _ _ s => s)
theorem Save.mono {a b : World} {S T : Nat → Prop} (h : Save a b S) (hs : ∀ j, j < a.heap.size → S j → T j) : Save a b T := ⟨h.os, h.tape, h.output, h.size, fun j hj ht => h.block j hj (fun s => ht (hs j hj s))⟩
theorem Save.none {w w' : World} (h : w.grownBy w' none) (S : Nat → Prop) : Save w w' S := ⟨h.os, h.tape, h.output, h.size, fun j hj _ => h.block j hj (by simp)⟩
theorem Save.at_ {w w' : World} {b : Nat} {B : Nat → Prop} (h : w.grownBy w' (some b)) : Save w w' (fun j => j = b ∨ B j) := (Save.of h).mono fun j _ e => .inl (Option.some.inj e).symm
theorem tree_kept {w w' : World} {b : Nat} {B : Nat → Prop} {ok : Nat → Prop} {t : T} {cs : List Value} (h : SCells w ok t cs) (hk : ∀ j, ok j → ¬ B j ∧ j ≠ b) (hs : Save w w' (fun j => j = b ∨ B j)) : SCells w' ok t cs :=
 h.keep fun j hj hl => hs.block j hl (fun e => e.elim (hk j hj).2 (hk j hj).1)
theorem row6_kept {w w' : World} {b : Nat} {B : Nat → Prop} {ok : Nat → Prop} {v : Value} {n : Nat} {cs : List Value} (h : Own6 w ok v n cs) (hk : ∀ j, ok j → ¬ B j ∧ j ≠ b) (hs : Save w w' (fun j => j = b ∨ B j)) : Own6 w' ok v n cs :=
 h.keep fun j hj hl => hs.block j hl (fun e => e.elim (hk j hj).2 (hk j hj).1)
theorem OwnV.kept {w w' : World} {b : Nat} {B : Nat → Prop} {v : Value} {n : Nat} (h : OwnV w (fun j => B j ∧ j ≠ b) v n) (hg : w.grownBy w' (some b)) : OwnV w' (fun j => B j ∧ j ≠ b) v n := by
 obtain ⟨xs, hr, hl⟩ := h
 exact ⟨xs, rowKeep hr (fun j hj hlt => hg.block j hlt (fun e => (hl j hj).2 (Option.some.inj e))), hl⟩
theorem BPost.then {w w1 w2 : World} {b : Nat} {B : Nat → Prop} {s s1 : RunS} {nv u u1 nv1 c d k k2 : Nat} {e : Ending} (hc : s1.ch = s.ch) (ha : s.at_ ≤ s1.at_) (hu : u1 ≤ u + c * (1 + (s1.at_ - s.at_))) (hn : nv1 + 2 * u + k ≤ nv + 2 * u1 ∧ s1.ev.size + 500 * u ≤ s.ev.size + 500 * u1) (hs : Save w w1 (fun j => j = b ∨ B j))
  (h : BPost w1 b B s1 nv1 u1 d k2 e w2) : BPost w b B s nv u (c + d) (k + k2) e w2 := by
 obtain ⟨s2, nv2, u2, rfl, hm2, hc2, ha2, hu2, hn2, hs2⟩ := h
 exact ⟨s2, nv2, u2, rfl, hm2, hc2.trans hc, Nat.le_trans ha ha2, seq_budget ha ha2 hu hu2, ⟨by omega, by omega⟩, hs.join hs2⟩
theorem BPost.weak {w w' : World} {b : Nat} {B : Nat → Prop} {s : RunS} {nv u c d k k2 : Nat} {e : Ending} (h : BPost w b B s nv u c k e w') (hc : c ≤ d) (hk : k2 ≤ k) : BPost w b B s nv u d k2 e w' := by
 obtain ⟨s2, nv2, u2, rfl, hm2, hc2, ha2, hu2, hn2, hs2⟩ := h
 exact ⟨s2, nv2, u2, rfl, hm2, hc2, ha2, Nat.le_trans hu2 (Nat.add_le_add_left (Nat.mul_le_mul hc (Nat.le_refl _)) _), ⟨by omega, hn2.2⟩, hs2⟩
theorem OwnV.mono {w : World} {ok ok' : Nat → Prop} {v : Value} {n : Nat} (h : OwnV w ok v n) (hk : ∀ j, ok j → ok' j) : OwnV w ok' v n := by
 obtain ⟨xs, hr, hl⟩ := h
 exact ⟨xs, hr, fun j hj => hk j (hl j hj)⟩
theorem OwnV.bound {w : World} {ok : Nat → Prop} {v : Value} {n : Nat} (h : OwnV w ok v n) : OwnV w (fun j => ok j ∧ j < w.heap.size) v n := by
 obtain ⟨xs, hr, hl⟩ := h
 refine ⟨xs, hr, fun j hj => ⟨hl j hj, ?_⟩⟩
 rcases hr.2 with ⟨hv, _⟩ | ⟨g, cap, cur, hv, hb, hg, r⟩
 ·rw [hv] at hj; cases hj
 ·rw [hv] at hj
  have : g = j := by simpa [Value.ownBlock] using hj
  subst this
  exact (Array.getElem?_eq_some_iff.1 hg).1
theorem OwnV.grown0 {w w' : World} {ok : Nat → Prop} {v : Value} {n : Nat} (h : OwnV w ok v n) (hg : w.grownBy w' none) : OwnV w' ok v n := by
 obtain ⟨xs, hr, hl⟩ := h
 exact ⟨xs, rowKeep hr (fun j hj hlt => hg.block j hlt (by simp)), hl⟩
theorem Mid.box {w W : World} {b : Nat} {B : Nat → Prop} {s : RunS} {nv u : Nat} (M : Mid w b B s nv u) (hg : w.grownBy W none) (hs : w.heap.size < W.heap.size) : Mid W b (fun j => B j ∧ j ≠ w.heap.size) s nv u :=
 ⟨M.run.grown hg (by simp), (M.own.bound.mono (fun j hj => ⟨⟨hj.1.1, by omega⟩, hj.1.2⟩)).grown0 hg, M.used, M.le, M.at_, M.ch, M.ask, fun j hj => ⟨M.sz j (by omega), by omega⟩⟩
theorem BPost.box {w W w' : World} {b g : Nat} {B : Nat → Prop} {s : RunS} {nv u c k : Nat} {e : Ending} (h : BPost W b (fun j => B j ∧ j ≠ g) s nv u c k e w') (hg : w.grownBy W none) : BPost w b B s nv u c k e w' := by
 obtain ⟨s2, nv2, u2, rfl, M, hc2, ha2, hu2, hn2, hs2⟩ := h
 exact ⟨s2, nv2, u2, rfl, ⟨M.run, M.own.mono (fun j hj => ⟨hj.1.1, hj.2⟩), M.used, M.le, M.at_, M.ch, M.ask, fun j hj => (M.sz j hj).1⟩, hc2, ha2, hu2, hn2,
  (Save.none hg _).join ((hs2.mono (T := fun j => j = b ∨ B j) (fun j _ hj => hj.elim .inl (fun h => .inr h.1))))⟩
theorem Mid.count {w : World} {b : Nat} {B : Nat → Prop} {s : RunS} {nv u : Nat} (M : Mid w b B s nv u) : Mid w b B s nv (u + 1) :=
 ⟨M.run, M.own, M.used.mono (Nat.le_succ _), M.le, M.at_, M.ch, M.ask, M.sz⟩
theorem Mid.turn {w w' : World} {b : Nat} {B : Nat → Prop} {s s' : RunS} {nv u : Nat} (M : Mid w b B s nv u) (hr : Run w' b s') (hg : w.grownBy w' (some b)) (hv : s'.vis = s.vis) (hm : s'.made = s.made) (he : s'.ev = s.ev)
  (hle : s'.V = s.V) (ha : s'.at_ ≤ s'.ch.size) (hc : s'.ch = s.ch) (hk : s'.asked.size = 0 ∨ s'.asked.size = 2) : Mid w' b B s' nv u :=
 ⟨hr, hv ▸ M.own.kept hg, by rw [hm, he]; exact M.used, by rw [hle, hm]; exact M.le, ha, by rw [hc]; exact M.ch, hk, fun j hj => M.sz j (Nat.le_trans hg.size hj)⟩
theorem Mid.one {w w' : World} {b : Nat} {B : Nat → Prop} {s s' : RunS} {nv u : Nat} (M : Mid w b B s nv u) (hr : Run w' b s') (hg : w.grownBy w' (some b)) (hv : s'.vis = s.vis) (hm : s'.made ≤ s.made + 1) (he : s'.ev.size ≤ s.ev.size + 500)
  (hle : ∀ k, s'.V k ≤ s'.made) (ha : s'.at_ = s.at_) (hc : s'.ch = s.ch) (hk : s'.asked = s.asked) : BPost w b B s nv u 1 1 (.returned (.tuple #[])) w' :=
 ⟨s', nv, u + 1, rfl, ⟨hr, hv ▸ M.own.kept hg, M.used.step hm he (by omega), hle, by rw [ha, hc]; exact M.at_, by rw [hc]; exact M.ch, by rw [hk]; exact M.ask, fun j hj => M.sz j (Nat.le_trans hg.size hj)⟩, hc, by rw [ha]; exact Nat.le_refl _, by rw [ha]; simp, ⟨by omega, by omega⟩, Save.at_ hg⟩
theorem cell_of_block' {w w' : World} {g i : Nat} (h : w'.heap[g]? = w.heap[g]?) : w'.cell? ⟨g, i, none⟩ = w.cell? ⟨g, i, none⟩ := by
 simp only [World.cell?, h]
def aggOf (i : Inf) (bs : Value) : Value := .agg #[.int .u8 i.kind.toNat, .int .i64 i.at_, .int .i64 i.end_, .string i.vars, bs, .string i.scope]
set_option maxHeartbeats 1600000 in
set_option maxRecDepth 100000 in
theorem step_plus (w : World) (b : Nat) (B : Nat → Prop) (s : RunS) (nv u : Nat) (i : Inf) (bs : Value) (hm : Mid w b B s nv u) (hi : NOk i) (hk : i.kind = 43) (hu : u ≤ 1680) :
  Calls Tryd.prog 51 #[.pointer (some ⟨b, 0, none⟩), aggOf i bs] w (BPost w b B s nv u 1 1) := by
 have h1 := hi.one (.inl hk)
 have hkn : (i.kind.toNat : Int) = 43 := by rw [hk]; rfl
 obtain ⟨k, hk6, hkc⟩ := lets_get hi.vl 0 h1
 have HM := Lib.hid hm
 unfold aggOf
 rw [hkn]
 clear hk hm hi
 go_enter Tryd.func51, Tryd.ntmps51
 go_wp2_with fail
 generalize hW : w.alloc (.cells #[.int .u8 43, .int .i64 i.at_, .int .i64 i.end_, .string i.vars, bs, .string i.scope] 82) = W
 have hg0 : w.grownBy W none := by rw [← hW]; exact World.grownBy_alloc w _ none
 have hcell : W.heap[w.heap.size]? = some (.cells #[.int .u8 43, .int .i64 i.at_, .int .i64 i.end_, .string i.vars, bs, .string i.scope] 82 (0, 0)) := by rw [← hW]; exact heap_alloc_new w _
 have hbg : w.heap.size ≠ b := by have := HM.out.run.lt; omega
 have HC := Lib.hid hcell
 have HG0 := Lib.hid hg0
 have hev : s.ev.size ≤ 840000 := by have := HM.out.used.evs; omega
 have hmade : s.made ≤ 1680 := by have := HM.out.used.made; omega
 clear hW hcell hg0
 refine (destroy_any W b s k (HM.out.run.grown HG0.out (by simp)) hk6 (by have := HM.out.le k; omega) (by omega)).mono ?_
 rintro e w1 ⟨ev1, hev1, rfl, hr1, hg1⟩
 have HR1 := Lib.hid hr1
 have HG1 := Lib.hid hg1
 have hc1 : w1.heap[w.heap.size]? = some (.cells #[.int .u8 43, .int .i64 i.at_, .int .i64 i.end_, .string i.vars, bs, .string i.scope] 82 (0, 0)) := (hg1.block _ (Array.getElem?_eq_some_iff.1 HC.out).1 (fun e => hbg (Option.some.inj e))).trans HC.out
 have n3 : w1.cell? ⟨w.heap.size, 3, none⟩ = some (.string i.vars) := by simp [World.cell?, hc1]
 have c8 := hr1.c8
 have f8 := hr1.fz 8
 have HR2 := Lib.hid (hr1.setMade (s.made + 1))
 have cv := hr1.cV k hk6
 have fv := hr1.fz (2 + k)
 have HI := Lib.hid (show ((i.vars[0]'h1).toNat : Int) = 97 + (k : Int) from hkc)
 clear hr1 hg1 hc1
 go_wp2_with fail
 generalize hW2 : w1.setCell ⟨b, 8, none⟩ (.int .i64 ((s.made : Int) + 1)) = W2
 have hr2 : Run W2 b { s with ev := ev1, V := zeroAt s.V k, made := s.made + 1 } := by rw [← hW2]; exact HR2.out
 have HG2 := Lib.hid (show w1.grownBy W2 (some b) by rw [← hW2]; exact grown_set w1 b 8 _)
 have m3 : W2.cell? ⟨w.heap.size, 3, none⟩ = some (.string i.vars) := by rw [← hW2, cell_of_block' (Below.heap_setCell w1 _ _ _ hbg)]; exact n3
 have d8 : W2.cell? ⟨b, 8, none⟩ = some (.int .i64 ((s.made : Int) + 1)) := hr2.c8
 have dv := hr2.cV k hk6
 have gv := hr2.fz (2 + k)
 clear hW2 n3 c8 f8 cv fv
 go_region
 all_goals
  have hr3 := (hr2.heap (w' := W2.drew) rfl).setV k hk6 (s.made + 1)
  have e8 : (W2.drew.setCell ⟨b, 2 + k, none⟩ (.int .i64 ((s.made : Int) + 1))).cell? ⟨b, 8, none⟩ = some (.int .i64 ((s.made : Int) + 1)) := hr3.c8
  have HR3 := Lib.hid hr3
  have hne : 2 + k ≠ 8 := by omega
  have hne' : 8 ≠ 2 + k := by omega
  clear dv gv m3 hr3
  go_wp2_with fail
  refine Calls.mono (event_any _ b _ ⟨#[43]⟩ (s.made + 1) (HR3.out.heap (by rfl)) rfl (by omega) (by show ev1.size ≤ 1000000; omega)) ?_
  rintro e w4 ⟨ev4, hev4, rfl, hr4, hg4⟩
  have hev4' : ev4.size ≤ ev1.size + 6 := hev4
  go_wp2_with fail
  have hG : w.grownBy w4 (some b) := World.grownBy.trans (World.grownBy.trans (World.grownBy.trans (grown_any HG0.out (some b)) HG1.out) HG2.out) (World.grownBy.trans (heap_grown (grown_set W2 b (2 + k) (.int .i64 ((s.made : Int) + 1))) (by rfl) (by rfl) (by rfl) (by rfl)) hg4)
  have M := HM.out
  have hle : ∀ j, (if j = k then s.made + 1 else zeroAt s.V k j) ≤ s.made + 1 := fun j => by
   have := M.le j
   show (if j = k then s.made + 1 else (if j = k then 0 else s.V j)) ≤ s.made + 1
   by_cases h : j = k
   ·rw [if_pos h]; exact Nat.le_refl _
   ·rw [if_neg h, if_neg h]; omega
  go_end0
  exact ⟨_, nv, u + 1, rfl, ⟨hr4, M.own.kept hG, M.used.step (Nat.le_refl _) (by show ev4.size ≤ s.ev.size + 500; omega) (by omega), hle, M.at_, M.ch, M.ask, fun j hj => M.sz j (Nat.le_trans hG.size hj)⟩, rfl, Nat.le_refl _, by simp, ⟨by omega, by show ev4.size + 500 * u ≤ s.ev.size + 500 * (u + 1); omega⟩, Save.at_ hG⟩
set_option maxHeartbeats 1600000 in
set_option maxRecDepth 100000 in
theorem step_tilde (w : World) (b : Nat) (B : Nat → Prop) (s : RunS) (nv u : Nat) (i : Inf) (bs : Value) (hm : Mid w b B s nv u) (hi : NOk i) (hk : i.kind = 126) (hu : u ≤ 1680) :
  Calls Tryd.prog 51 #[.pointer (some ⟨b, 0, none⟩), aggOf i bs] w (BPost w b B s nv u 1 1) := by
 have h1 := hi.one (.inr (.inr (.inr hk)))
 have hkn : (i.kind.toNat : Int) = 126 := by rw [hk]; rfl
 obtain ⟨k, hk6, hkc⟩ := lets_get hi.vl 0 h1
 have HM := Lib.hid hm
 unfold aggOf
 rw [hkn]
 clear hk hm hi
 go_enter Tryd.func51, Tryd.ntmps51
 go_wp2_with fail
 generalize hW : w.alloc (.cells #[.int .u8 126, .int .i64 i.at_, .int .i64 i.end_, .string i.vars, bs, .string i.scope] 82) = W
 have HG0 := Lib.hid (show w.grownBy W none by rw [← hW]; exact World.grownBy_alloc w _ none)
 have hev : s.ev.size ≤ 840000 := by have := HM.out.used.evs; omega
 have hmade : s.made ≤ 1680 := by have := HM.out.used.made; omega
 clear hW
 refine (destroy_any W b s k (HM.out.run.grown HG0.out (by simp)) hk6 (by have := HM.out.le k; omega) (by omega)).mono ?_
 rintro e w1 ⟨ev1, hev1, rfl, hr1, hg1⟩
 have HR1 := Lib.hid hr1
 have HG1 := Lib.hid hg1
 clear hr1 hg1
 go_wp2_with fail
 have hG : w.grownBy w1 (some b) := World.grownBy.trans (grown_any HG0.out (some b)) HG1.out
 have M := HM.out
 have hle : ∀ j, zeroAt s.V k j ≤ s.made := fun j => by
  have := M.le j
  show (if j = k then 0 else s.V j) ≤ s.made
  by_cases h : j = k
  ·rw [if_pos h]; exact Nat.zero_le _
  ·rw [if_neg h]; omega
 go_end0
 exact ⟨_, nv, u + 1, rfl, ⟨HR1.out, M.own.kept hG, M.used.step (Nat.le_succ _) (by show ev1.size ≤ s.ev.size + 500; omega) (by omega), hle, M.at_, M.ch, M.ask, fun j hj => M.sz j (Nat.le_trans hG.size hj)⟩, rfl, Nat.le_refl _, by simp, ⟨by omega, by show ev1.size + 500 * u ≤ s.ev.size + 500 * (u + 1); omega⟩, Save.at_ hG⟩
theorem looked_rest (s : RunS) (k : Nat) (a : Int) : (s.looked k a).ch = s.ch ∧ (s.looked k a).at_ = s.at_ ∧ (s.looked k a).V = s.V ∧ (s.looked k a).made = s.made ∧ (s.looked k a).ev = s.ev ∧ (s.looked k a).asked = s.asked ∧ (s.looked k a).vis = s.vis := by
  unfold RunS.looked
  split <;> exact ⟨rfl, rfl, rfl, rfl, rfl, rfl, rfl⟩
theorem zero_le' {V : Nat → Nat} {k m : Nat} (h : ∀ j, V j ≤ m) (j : Nat) : zeroAt V k j ≤ m := by
  unfold zeroAt
  split
  · exact Nat.zero_le _
  · exact h j
set_option maxHeartbeats 1600000 in
set_option maxRecDepth 100000 in
theorem step_minus (w : World) (b : Nat) (B : Nat → Prop) (s : RunS) (nv u : Nat) (i : Inf) (bs : Value) (hm : Mid w b B s nv u) (hi : NOk i) (hk : i.kind = 45) (hu : u ≤ 1680) :
    Calls Tryd.prog 51 #[.pointer (some ⟨b, 0, none⟩), aggOf i bs] w (BPost w b B s nv u 1 1) := by
  have h1 := hi.one (.inr (.inr (.inl hk)))
  have hkn : (i.kind.toNat : Int) = 45 := by rw [hk]; rfl
  obtain ⟨k, hk6, hkc⟩ := lets_get hi.vl 0 h1
  have HM := Lib.hid hm
  unfold aggOf
  rw [hkn]
  clear hk hm hi
  go_enter Tryd.func51, Tryd.ntmps51
  go_wp2_with fail
  generalize hW : w.alloc (.cells #[.int .u8 45, .int .i64 i.at_, .int .i64 i.end_, .string i.vars, bs, .string i.scope] 82) = W
  have HG0 := Lib.hid (show w.grownBy W none by rw [← hW]; exact World.grownBy_alloc w _ none)
  have hcell : W.heap[w.heap.size]? = some (.cells #[.int .u8 45, .int .i64 i.at_, .int .i64 i.end_, .string i.vars, bs, .string i.scope] 82 (0, 0)) := by rw [← hW]; exact heap_alloc_new w _
  have HC := Lib.hid hcell
  have hbg : w.heap.size ≠ b := by have := HM.out.run.lt; omega
  have m1 : W.cell? ⟨w.heap.size, 1, none⟩ = some (.int .i64 i.at_) := by simp [World.cell?, hcell]
  have m3 : W.cell? ⟨w.heap.size, 3, none⟩ = some (.string i.vars) := by simp [World.cell?, hcell]
  have hev : s.ev.size ≤ 840000 := by have := HM.out.used.evs; omega
  have hmade : s.made ≤ 1680 := by have := HM.out.used.made; omega
  have hkc' : ((i.vars[0]'h1).toNat : Int) = 97 + (k : Int) := hkc
  have HR0 := Lib.hid (HM.out.run.grown HG0.out (by simp))
  clear hW hcell
  go_region_with (
    (go_at_call 66
     refine Calls.mono (value_any _ b s k i.at_ (HR0.out.heap (by rfl)) hk6) ?_
     rintro e w1 ⟨rfl, hr1, hg1⟩
     have HR1 := Lib.hid hr1
     have HG1 := Lib.hid (World.grownBy.trans (heap_grown (World.grownBy.refl W (some b)) (by rfl) (by rfl) (by rfl) (by rfl)) hg1)
     have hc1 : w1.heap[w.heap.size]? = some (.cells #[.int .u8 45, .int .i64 i.at_, .int .i64 i.end_, .string i.vars, bs, .string i.scope] 82 (0, 0)) := (HG1.out.block _ (Array.getElem?_eq_some_iff.1 HC.out).1 (fun e => hbg (Option.some.inj e))).trans HC.out
     have n3 : w1.cell? ⟨w.heap.size, 3, none⟩ = some (.string i.vars) := by simp [World.cell?, hc1]
     clear hr1 hg1 hc1))
  all_goals
    have hl := looked_rest s k i.at_
    go_wp2_with fail
    refine Calls.mono (destroy_any _ b _ k (HR1.out.heap (by rfl)) hk6 (by rw [hl.2.2.1]; have := HM.out.le k; omega) (by rw [hl.2.2.2.2.1]; omega)) ?_
    rintro e w2 ⟨ev2, hev2, rfl, hr2, hg2⟩
    go_wp2_with fail
    go_end0
    refine HM.out.one hr2 (World.grownBy.trans (grown_any HG0.out (some b)) (World.grownBy.trans (heap_grown HG1.out (by rfl) (by rfl) (by rfl) (by rfl)) hg2)) hl.2.2.2.2.2.2 ?_ ?_ ?_ hl.2.1 hl.1 hl.2.2.2.2.2.1
    · show (s.looked k i.at_).made ≤ _
      rw [hl.2.2.2.1]; omega
    · show ev2.size ≤ _
      rw [hl.2.2.2.2.1] at hev2; omega
    · show ∀ j, zeroAt (s.looked k i.at_).V k j ≤ (s.looked k i.at_).made
      rw [hl.2.2.1, hl.2.2.2.1]
      exact zero_le' HM.out.le
set_option maxHeartbeats 1600000 in
set_option maxRecDepth 100000 in
theorem step_dot (w : World) (b : Nat) (B : Nat → Prop) (s : RunS) (nv u : Nat) (i : Inf) (bs : Value) (hm : Mid w b B s nv u) (hi : NOk i) (hk : i.kind = 46) (hu : u ≤ 1680) :
    Calls Tryd.prog 51 #[.pointer (some ⟨b, 0, none⟩), aggOf i bs] w (BPost w b B s nv u 1 1) := by
  have h1 := hi.one (.inr (.inl hk))
  have hkn : (i.kind.toNat : Int) = 46 := by rw [hk]; rfl
  obtain ⟨k, hk6, hkc⟩ := lets_get hi.vl 0 h1
  have HM := Lib.hid hm
  unfold aggOf
  rw [hkn]
  clear hk hm hi
  go_enter Tryd.func51, Tryd.ntmps51
  go_wp2_with fail
  generalize hW : w.alloc (.cells #[.int .u8 46, .int .i64 i.at_, .int .i64 i.end_, .string i.vars, bs, .string i.scope] 82) = W
  have HG0 := Lib.hid (show w.grownBy W none by rw [← hW]; exact World.grownBy_alloc w _ none)
  have hcell : W.heap[w.heap.size]? = some (.cells #[.int .u8 46, .int .i64 i.at_, .int .i64 i.end_, .string i.vars, bs, .string i.scope] 82 (0, 0)) := by rw [← hW]; exact heap_alloc_new w _
  have HC := Lib.hid hcell
  have hbg : w.heap.size ≠ b := by have := HM.out.run.lt; omega
  have m1 : W.cell? ⟨w.heap.size, 1, none⟩ = some (.int .i64 i.at_) := by simp [World.cell?, hcell]
  have m3 : W.cell? ⟨w.heap.size, 3, none⟩ = some (.string i.vars) := by simp [World.cell?, hcell]
  have hev : s.ev.size ≤ 840000 := by have := HM.out.used.evs; omega
  have hmade : s.made ≤ 1680 := by have := HM.out.used.made; omega
  have hkc' : ((i.vars[0]'h1).toNat : Int) = 97 + (k : Int) := hkc
  have HR0 := Lib.hid (HM.out.run.grown HG0.out (by simp))
  clear hW hcell
  go_region_with (
    (go_at_call 66
     refine Calls.mono (value_any _ b s k i.at_ (HR0.out.heap (by rfl)) hk6) ?_
     rintro e w1 ⟨rfl, hr1, hg1⟩
     have HR1 := Lib.hid hr1
     have HG1 := Lib.hid (World.grownBy.trans (heap_grown (World.grownBy.refl W (some b)) (by rfl) (by rfl) (by rfl) (by rfl)) hg1)
     have hc1 : w1.heap[w.heap.size]? = some (.cells #[.int .u8 46, .int .i64 i.at_, .int .i64 i.end_, .string i.vars, bs, .string i.scope] 82 (0, 0)) := (HG1.out.block _ (Array.getElem?_eq_some_iff.1 HC.out).1 (fun e => hbg (Option.some.inj e))).trans HC.out
     have n3 : w1.cell? ⟨w.heap.size, 3, none⟩ = some (.string i.vars) := by simp [World.cell?, hc1]
     clear hr1 hg1 hc1))
  all_goals
    have hl := looked_rest s k i.at_
    have hVk := HM.out.le k
    have hvis := hl.2.2.2.2.2.2
    have hHl := Lib.hid hl
    clear hl
    by_cases hp : 0 < s.V k
    · have hd : decide ((0 : Int) < (s.V k : Int)) = true := by simp; omega
      go_wp2_with fail
      refine Calls.mono (event_any _ b _ ⟨#[46]⟩ (s.V k) (HR1.out.heap (by rfl)) rfl (by omega) (by rw [hHl.out.2.2.2.2.1]; omega)) ?_
      rintro e w2 ⟨ev2, hev2, rfl, hr2, hg2⟩
      go_wp2_with fail
      have hl := hHl.out
      go_end0
      refine HM.out.one hr2 (World.grownBy.trans (grown_any HG0.out (some b)) (World.grownBy.trans (heap_grown HG1.out (by rfl) (by rfl) (by rfl) (by rfl)) hg2)) hl.2.2.2.2.2.2 ?_ ?_ ?_ hl.2.1 hl.1 hl.2.2.2.2.2.1
      · show (s.looked k i.at_).made ≤ _
        rw [hl.2.2.2.1]; omega
      · show ev2.size ≤ _
        rw [hl.2.2.2.2.1] at hev2; omega
      · show ∀ j, (s.looked k i.at_).V j ≤ (s.looked k i.at_).made
        rw [hl.2.2.1, hl.2.2.2.1]
        exact HM.out.le
    · have hd : decide ((0 : Int) < (s.V k : Int)) = false := by simp; omega
      go_wp2_with fail
      have hl := hHl.out
      go_end0
      refine HM.out.one (HR1.out.heap (by rfl)) (World.grownBy.trans (grown_any HG0.out (some b)) (heap_grown HG1.out (by rfl) (by rfl) (by rfl) (by rfl))) hl.2.2.2.2.2.2 ?_ ?_ ?_ hl.2.1 hl.1 hl.2.2.2.2.2.1
      · rw [hl.2.2.2.1]; omega
      · rw [hl.2.2.2.2.1]; omega
      · rw [hl.2.2.1, hl.2.2.2.1]
        exact HM.out.le
set_option maxHeartbeats 1600000 in
set_option maxRecDepth 100000 in
theorem step_give (w : World) (b : Nat) (B : Nat → Prop) (s : RunS) (nv u : Nat) (i : Inf) (bs : Value) (hm : Mid w b B s nv u) (hi : NOk i) (hk : i.kind = 61) (hu : u ≤ 1680) :
    Calls Tryd.prog 51 #[.pointer (some ⟨b, 0, none⟩), aggOf i bs] w (BPost w b B s nv u 1 1) := by
  have h2 := hi.two hk
  have hkn : (i.kind.toNat : Int) = 61 := by rw [hk]; rfl
  obtain ⟨k, hk6, hkc⟩ := lets_get hi.vl 0 (by omega)
  obtain ⟨j, hj6, hjc⟩ := lets_get hi.vl 1 (by omega)
  have HM := Lib.hid hm
  unfold aggOf
  rw [hkn]
  clear hk hm hi
  go_enter Tryd.func51, Tryd.ntmps51
  go_wp2_with fail
  generalize hW : w.alloc (.cells #[.int .u8 61, .int .i64 i.at_, .int .i64 i.end_, .string i.vars, bs, .string i.scope] 82) = W
  have HG0 := Lib.hid (show w.grownBy W none by rw [← hW]; exact World.grownBy_alloc w _ none)
  have hcell : W.heap[w.heap.size]? = some (.cells #[.int .u8 61, .int .i64 i.at_, .int .i64 i.end_, .string i.vars, bs, .string i.scope] 82 (0, 0)) := by rw [← hW]; exact heap_alloc_new w _
  have HC := Lib.hid hcell
  have hbg : w.heap.size ≠ b := by have := HM.out.run.lt; omega
  have hev : s.ev.size ≤ 840000 := by have := HM.out.used.evs; omega
  have hmade : s.made ≤ 1680 := by have := HM.out.used.made; omega
  clear hW hcell
  refine Calls.mono (destroy_any W b s k (HM.out.run.grown HG0.out (by simp)) hk6 (by have := HM.out.le k; omega) (by omega)) ?_
  rintro e w1 ⟨ev1, hev1, rfl, hr1, hg1⟩
  have hle1 : ∀ j, zeroAt s.V k j ≤ s.made := zero_le' HM.out.le
  generalize hV1 : zeroAt s.V k = V1 at *
  have hl0 : ({ s with ev := ev1, V := V1 } : RunS).ch = s.ch ∧ ({ s with ev := ev1, V := V1 } : RunS).at_ = s.at_ ∧ ({ s with ev := ev1, V := V1 } : RunS).V = V1 ∧ ({ s with ev := ev1, V := V1 } : RunS).made = s.made ∧ ({ s with ev := ev1, V := V1 } : RunS).ev = ev1 ∧ ({ s with ev := ev1, V := V1 } : RunS).asked = s.asked ∧ ({ s with ev := ev1, V := V1 } : RunS).vis = s.vis := ⟨rfl, rfl, rfl, rfl, rfl, rfl, rfl⟩
  generalize ({ s with ev := ev1, V := V1 } : RunS) = s1 at *
  have HL0 := Lib.hid hl0
  have HLE := Lib.hid hle1
  obtain ⟨x, hx⟩ : ∃ x, s1.V j = x := ⟨_, rfl⟩
  have hxm : x ≤ s.made := by rw [← hx, hl0.2.2.1]; exact hle1 j
  have HX := Lib.hid hx
  clear hl0 hle1 hx
  have HR1 := Lib.hid hr1
  have HG1 := Lib.hid hg1
  have hc1 : w1.heap[w.heap.size]? = some (.cells #[.int .u8 61, .int .i64 i.at_, .int .i64 i.end_, .string i.vars, bs, .string i.scope] 82 (0, 0)) := (hg1.block _ (Array.getElem?_eq_some_iff.1 HC.out).1 (fun e => hbg (Option.some.inj e))).trans HC.out
  have HC1 := Lib.hid hc1
  have n1 : w1.cell? ⟨w.heap.size, 1, none⟩ = some (.int .i64 i.at_) := by simp [World.cell?, hc1]
  have n3 : w1.cell? ⟨w.heap.size, 3, none⟩ = some (.string i.vars) := by simp [World.cell?, hc1]
  have HJ := Lib.hid (show ((i.vars[1]'(by omega)).toNat : Int) = 97 + (j : Int) from hjc)
  have HK := Lib.hid (show ((i.vars[0]'(by omega)).toNat : Int) = 97 + (k : Int) from hkc)
  clear hr1 hg1 hc1 hkc hV1
  have hjc' := HJ.out
  clear hjc
  go_wp2_with fail
  go_region_with (
    (go_at_call 66
     refine Calls.mono (value_any _ b _ j i.at_ (HR1.out.heap (by rfl)) hj6) ?_
     rintro e w2 ⟨he2, hr2, hg2⟩
     rw [HX.out] at he2
     subst he2
     have HR2 := Lib.hid hr2
     have HG2 := Lib.hid (World.grownBy.trans (heap_grown (World.grownBy.refl w1 (some b)) (by rfl) (by rfl) (by rfl) (by rfl)) hg2)
     have hc2 : w2.heap[w.heap.size]? = some (.cells #[.int .u8 61, .int .i64 i.at_, .int .i64 i.end_, .string i.vars, bs, .string i.scope] 82 (0, 0)) := (HG2.out.block _ (Array.getElem?_eq_some_iff.1 HC1.out).1 (fun e => hbg (Option.some.inj e))).trans HC1.out
     have HC2 := Lib.hid hc2
     have q3 : w2.cell? ⟨w.heap.size, 3, none⟩ = some (.string i.vars) := by simp [World.cell?, hc2]
     clear hr2 hg2 hc2))
  all_goals
    clear hjc' n1 n3
    have hl0 := HL0.out
    have hlk := looked_rest s1 j i.at_
    have hl : (s1.looked j i.at_).ch = s.ch ∧ (s1.looked j i.at_).at_ = s.at_ ∧ (s1.looked j i.at_).V = V1 ∧ (s1.looked j i.at_).made = s.made ∧ (s1.looked j i.at_).ev = ev1 ∧ (s1.looked j i.at_).asked = s.asked ∧ (s1.looked j i.at_).vis = s.vis :=
      ⟨hlk.1.trans hl0.1, hlk.2.1.trans hl0.2.1, hlk.2.2.1.trans hl0.2.2.1, hlk.2.2.2.1.trans hl0.2.2.2.1, hlk.2.2.2.2.1.trans hl0.2.2.2.2.1, hlk.2.2.2.2.2.1.trans hl0.2.2.2.2.2.1, hlk.2.2.2.2.2.2.trans hl0.2.2.2.2.2.2⟩
    have HL := Lib.hid hl
    generalize s1.looked j i.at_ = s2 at *
    clear hl0 hlk hl
    by_cases hp : 0 < x
    · have hd : decide ((0 : Int) < (x : Int)) = true := by simp; omega
      have hkc := HK.out
      have cv := HR2.out.cV k hk6
      have fv := HR2.out.fz (2 + k)
      go_wp2_with fail
      go_region
      all_goals
        clear cv fv hkc q3
        generalize hW3 : w2.setCell ⟨b, 2 + k, none⟩ (.int .i64 (x : Int)) = W3
        have HR3 := Lib.hid (show Run W3 b { s2 with V := fun y => if y = k then x else s2.V y } by rw [← hW3]; exact HR2.out.setV k hk6 x)
        have HG3 := Lib.hid (show w2.grownBy W3 (some b) by rw [← hW3]; exact grown_set w2 b (2 + k) _)
        have q3 : W3.cell? ⟨w.heap.size, 3, none⟩ = some (.string i.vars) := by rw [← hW3, cell_of_block' (Below.heap_setCell w2 _ _ _ hbg)]; simp [World.cell?, HC2.out]
        have cv := HR3.out.cV j hj6
        have fv := HR3.out.fz (2 + j)
        have hjc := HJ.out
        clear hW3
        go_wp2_with fail
        go_region
        all_goals
          have hl := HL.out
          have hr4 := (HR3.out.heap (w' := W3) rfl).setV j hj6 0
          have hG4 := World.grownBy.trans HG3.out (grown_set W3 b (2 + j) (.int .i64 ((0 : Nat) : Int)))
          go_end0
          refine HM.out.one (hr4.heap (by rfl)) (World.grownBy.trans (grown_any HG0.out (some b)) (World.grownBy.trans HG1.out (World.grownBy.trans HG2.out (heap_grown hG4 (by rfl) (by rfl) (by rfl) (by rfl))))) hl.2.2.2.2.2.2 ?_ ?_ ?_ hl.2.1 hl.1 hl.2.2.2.2.2.1
          · show s2.made ≤ _
            rw [hl.2.2.2.1]; omega
          · show s2.ev.size ≤ _
            rw [hl.2.2.2.2.1]; omega
          · show ∀ y, (if y = j then 0 else if y = k then x else s2.V y) ≤ s2.made
            rw [hl.2.2.1, hl.2.2.2.1]
            intro y
            have := HLE.out y
            split
            · omega
            · split <;> omega
    · have hd : decide ((0 : Int) < (x : Int)) = false := by simp; omega
      go_wp2_with fail
      have hl := HL.out
      go_end0
      refine HM.out.one (HR2.out.heap (by rfl)) (World.grownBy.trans (grown_any HG0.out (some b)) (World.grownBy.trans HG1.out (heap_grown HG2.out (by rfl) (by rfl) (by rfl) (by rfl)))) hl.2.2.2.2.2.2 ?_ ?_ ?_ hl.2.1 hl.1 hl.2.2.2.2.2.1
      · rw [hl.2.2.2.1]; omega
      · rw [hl.2.2.2.2.1]; omega
      · rw [hl.2.2.1, hl.2.2.2.1]
        exact HLE.out
set_option maxHeartbeats 1600000 in
set_option maxRecDepth 100000 in
theorem step_leave (w : World) (b : Nat) (B : Nat → Prop) (s : RunS) (nv u : Nat) (i : Inf) (bs : Value) (hm : Mid w b B s nv u) (hi : NOk i) (hk : i.kind = 94) (hu : u ≤ 1680) :
  Calls Tryd.prog 51 #[.pointer (some ⟨b, 0, none⟩), aggOf i bs] w (BPost w b B s nv u 1 1) := by
 have hkn : (i.kind.toNat : Int) = 94 := by rw [hk]; rfl
 have hsl := hi.sl
 have hss := hi.ss
 have HM := Lib.hid hm
 unfold aggOf
 rw [hkn]
 clear hk hm hi
 go_enter Tryd.func51, Tryd.ntmps51
 go_wp2_with fail
 generalize hW : w.alloc (.cells #[.int .u8 94, .int .i64 i.at_, .int .i64 i.end_, .string i.vars, bs, .string i.scope] 82) = W
 have HG0 := Lib.hid (show w.grownBy W none by rw [← hW]; exact World.grownBy_alloc w _ none)
 have hcell : W.heap[w.heap.size]? = some (.cells #[.int .u8 94, .int .i64 i.at_, .int .i64 i.end_, .string i.vars, bs, .string i.scope] 82 (0, 0)) := by rw [← hW]; exact heap_alloc_new w _
 have HC := Lib.hid hcell
 have hbg : w.heap.size ≠ b := by have := HM.out.run.lt; omega
 have hev : s.ev.size ≤ 840000 := by have := HM.out.used.evs; omega
 have hmade : s.made ≤ 1680 := by have := HM.out.used.made; omega
 clear hW hcell
 refine Calls.mono (clear_any W b s i.scope (HM.out.run.grown HG0.out (by simp)) hsl hss (fun k => by have := HM.out.le k; omega) (by omega)) ?_
 rintro e w1 ⟨ev1, V1, hev1, hV1, rfl, hr1, hg1⟩
 have HR1 := Lib.hid hr1
 have HG1 := Lib.hid hg1
 have f10 := hr1.fz 10
 have c10 := hr1.c10
 have hc1 : w1.heap[w.heap.size]? = some (.cells #[.int .u8 94, .int .i64 i.at_, .int .i64 i.end_, .string i.vars, bs, .string i.scope] 82 (0, 0)) := (hg1.block _ (Array.getElem?_eq_some_iff.1 HC.out).1 (fun e => hbg (Option.some.inj e))).trans HC.out
 have q0 : (w1.setCell ⟨b, 10, none⟩ (.int .i64 2)).cell? ⟨w.heap.size, 0, none⟩ = some (.int .u8 94) := by rw [cell_of_block' (Below.heap_setCell w1 _ _ _ hbg)]; simp [World.cell?, hc1]
 clear hr1 hg1 hc1
 go_wp2_with fail
 go_end0
 refine HM.out.one (HR1.out.setExit 2) (World.grownBy.trans (grown_any HG0.out (some b)) (World.grownBy.trans HG1.out (grown_set w1 b 10 _))) rfl ?_ ?_ ?_ rfl rfl rfl
 ·show s.made ≤ _
  omega
 ·show ev1.size ≤ _
  omega
 ·show ∀ y, V1 y ≤ s.made
  intro y
  have := HM.out.le y
  rcases hV1 y with e | e <;> omega
set_option maxHeartbeats 1600000 in
set_option maxRecDepth 100000 in
theorem step_fail (w : World) (b : Nat) (B : Nat → Prop) (s : RunS) (nv u : Nat) (i : Inf) (bs : Value) (hm : Mid w b B s nv u) (hi : NOk i) (hk : i.kind = 33) (hu : u ≤ 1680) :
  Calls Tryd.prog 51 #[.pointer (some ⟨b, 0, none⟩), aggOf i bs] w (BPost w b B s nv u 1 1) := by
 have hkn : (i.kind.toNat : Int) = 33 := by rw [hk]; rfl
 have hsl := hi.sl
 have hss := hi.ss
 have HM := Lib.hid hm
 unfold aggOf
 rw [hkn]
 clear hk hm hi
 go_enter Tryd.func51, Tryd.ntmps51
 go_wp2_with fail
 generalize hW : w.alloc (.cells #[.int .u8 33, .int .i64 i.at_, .int .i64 i.end_, .string i.vars, bs, .string i.scope] 82) = W
 have HG0 := Lib.hid (show w.grownBy W none by rw [← hW]; exact World.grownBy_alloc w _ none)
 have hcell : W.heap[w.heap.size]? = some (.cells #[.int .u8 33, .int .i64 i.at_, .int .i64 i.end_, .string i.vars, bs, .string i.scope] 82 (0, 0)) := by rw [← hW]; exact heap_alloc_new w _
 have HC := Lib.hid hcell
 have hbg : w.heap.size ≠ b := by have := HM.out.run.lt; omega
 have hev : s.ev.size ≤ 840000 := by have := HM.out.used.evs; omega
 have hmade : s.made ≤ 1680 := by have := HM.out.used.made; omega
 clear hW hcell
 refine Calls.mono (clear_any W b s i.scope (HM.out.run.grown HG0.out (by simp)) hsl hss (fun k => by have := HM.out.le k; omega) (by omega)) ?_
 rintro e w1 ⟨ev1, V1, hev1, hV1, rfl, hr1, hg1⟩
 have HR1 := Lib.hid hr1
 have HG1 := Lib.hid hg1
 have f10 := hr1.fz 10
 have c10 := hr1.c10
 have f10' := (hr1.setExit 2).fz 10
 have c10' := (hr1.setExit 2).c10
 have hc1 : w1.heap[w.heap.size]? = some (.cells #[.int .u8 33, .int .i64 i.at_, .int .i64 i.end_, .string i.vars, bs, .string i.scope] 82 (0, 0)) := (hg1.block _ (Array.getElem?_eq_some_iff.1 HC.out).1 (fun e => hbg (Option.some.inj e))).trans HC.out
 have q0 : (w1.setCell ⟨b, 10, none⟩ (.int .i64 2)).cell? ⟨w.heap.size, 0, none⟩ = some (.int .u8 33) := by rw [cell_of_block' (Below.heap_setCell w1 _ _ _ hbg)]; simp [World.cell?, hc1]
 clear hr1 hg1 hc1
 go_wp2_with fail
 go_end0
 refine HM.out.one ((HR1.out.setExit 2).setExit 3) (World.grownBy.trans (grown_any HG0.out (some b)) (World.grownBy.trans HG1.out (World.grownBy.trans (grown_set w1 b 10 _) (grown_set _ b 10 _)))) rfl ?_ ?_ ?_ rfl rfl rfl
 ·show s.made ≤ _
  omega
 ·show ev1.size ≤ _
  omega
 ·show ∀ y, V1 y ≤ s.made
  intro y
  have := HM.out.le y
  rcases hV1 y with e | e <;> omega
set_option maxHeartbeats 1600000 in
set_option maxRecDepth 100000 in
theorem step_within (w : World) (b : Nat) (B : Nat → Prop) (s : RunS) (i : Inf) (bs : Value) (hb : b < w.heap.size) (P : Ending → World → Prop)
  (hne : i.kind ≠ 43 ∧ i.kind ≠ 61 ∧ i.kind ≠ 46 ∧ i.kind ≠ 45 ∧ i.kind ≠ 126 ∧ i.kind ≠ 94 ∧ i.kind ≠ 33)
  (hP : ∀ W, w.grownBy W none → Calls Tryd.prog 68 #[.pointer (some ⟨b, 0, none⟩), aggOf i bs] W (fun e w' => e = .returned (.tuple #[]) ∧ P e w')) :
  Calls Tryd.prog 51 #[.pointer (some ⟨b, 0, none⟩), aggOf i bs] w P := by
 have hlt : i.kind.toNat < 256 := i.kind.toNat_lt
 have hn : ∀ n : Nat, n < 256 → i.kind ≠ UInt8.ofNat n → i.kind.toNat ≠ n := fun n hn h e => h (by rw [← e]; simp)
 have h1 : decide (i.kind.toNat = 43) = false := by simpa using hn 43 (by omega) hne.1
 have b1 : ((i.kind.toNat : Int) == 43) = false := by have := hn 43 (by omega) hne.1; simp; omega
 have b2 : ((i.kind.toNat : Int) == 61) = false := by have := hn 61 (by omega) hne.2.1; simp; omega
 have b3 : ((i.kind.toNat : Int) == 46) = false := by have := hn 46 (by omega) hne.2.2.1; simp; omega
 have b4 : ((i.kind.toNat : Int) == 45) = false := by have := hn 45 (by omega) hne.2.2.2.1; simp; omega
 have b5 : ((i.kind.toNat : Int) == 126) = false := by have := hn 126 (by omega) hne.2.2.2.2.1; simp; omega
 have b6 : ((i.kind.toNat : Int) == 94) = false := by have := hn 94 (by omega) hne.2.2.2.2.2.1; simp; omega
 have b7 : ((i.kind.toNat : Int) == 33) = false := by have := hn 33 (by omega) hne.2.2.2.2.2.2; simp; omega
 have HP := Lib.hid hP
 unfold aggOf at *
 clear hn hne hP h1 hlt
 generalize hKK : (i.kind.toNat : Int) = K at *
 go_enter Tryd.func51, Tryd.ntmps51
 go_wp2_with fail
 generalize hW : w.alloc (.cells #[.int .u8 K, .int .i64 i.at_, .int .i64 i.end_, .string i.vars, bs, .string i.scope] 82) = W
 have hg := (show w.grownBy W none by rw [← hW]; exact World.grownBy_alloc w _ none)
 clear hW
 refine Calls.mono (HP.out W hg) ?_
 rintro e w1 ⟨rfl, h⟩
 go_wp2_with fail
 go_end0
 exact h
def BodyC (t : T) : Prop := ∀ (w : World) (b : Nat) (B : Nat → Prop) (s : RunS) (nv u : Nat) (ok : Nat → Prop) (v : Value) (cs : List Value),
 Mid w b B s nv u → nv ≤ 2 * u → SCells w ok t cs → Own6 w ok v t.len cs → (∀ j, ok j → ¬ B j ∧ j ≠ b) → u + t.count * (1 + (s.ch.size - s.at_)) ≤ 1680 →
 Calls Tryd.prog 41 #[.pointer (some ⟨b, 0, none⟩), v] w (BPost w b B s nv u t.count 0)
structure WithC (w : World) (b : Nat) (B : Nat → Prop) (s : RunS) (nv u : Nat) (i : Inf) (b0 b1 : T) (ok : Nat → Prop) (A : Option Addr) (c : Nat) : Prop where
 mid : Mid w b B s nv u
 nok : NOk i
 bodies : SBodies w ok i b0 b1 A c
 apart : ∀ j, ok j → ¬ B j ∧ j ≠ b
 cost : u + (1 + b0.count + b1.count) * (1 + (s.ch.size - s.at_)) ≤ 1680
theorem SBodies.keep {w w' : World} {ok : Nat → Prop} {i : Inf} {b0 b1 : T} {A : Option Addr} {c : Nat} (h : SBodies w ok i b0 b1 A c) (hk : ∀ j, ok j → j < w.heap.size → w'.heap[j]? = w.heap[j]?) : SBodies w' ok i b0 b1 A c := by
 obtain ⟨v0, v1, c0, c1, h0, o0, h1, o1, hn, ob⟩ := h
 refine ⟨v0, v1, c0, c1, h0.keep hk, o0.keep hk, h1.keep hk, o1.keep hk, hn, ?_⟩
 exact ob.keep hk
theorem cost_one {u n d : Nat} (h : u + (1 + n) * (1 + d) ≤ 1680) : u + 1 + n * (1 + (d - 1)) ≤ 1680 ∧ u + 1 + n * (1 + d) ≤ 1680 := by
 have e : (1 + n) * (1 + d) = (1 + d) + n * (1 + d) := by rw [Nat.add_mul, Nat.one_mul]
 have e1 : n * (1 + (d - 1)) ≤ n * (1 + d) := Nat.mul_le_mul (Nat.le_refl _) (by omega)
 omega
def WPost (w : World) (b : Nat) (B : Nat → Prop) (s : RunS) (nv u c : Nat) (e : Ending) (w' : World) : Prop := e = .returned (.tuple #[]) ∧ BPost w b B s nv u c 1 e w'
theorem taken_body {w W w1 w2 : World} {b g : Nat} {B : Nat → Prop} {s : RunS} {nv u n m : Nat} {e : Ending} (hlt : s.at_ < s.ch.size) (hn : n ≤ m) (hg0 : w.grownBy W none) (hg1 : W.grownBy w1 (some b))
  (h : BPost w1 b (fun j => B j ∧ j ≠ g) { s with at_ := s.at_ + 1 } nv (u + 1) n 0 e w2) : WPost w b B s nv u (1 + m) e w2 := by
 have hB : BPost W b (fun j => B j ∧ j ≠ g) s nv u (1 + n) (2 + 0) e w2 := BPost.then (s1 := { s with at_ := s.at_ + 1 }) (c := 1) (k := 2) rfl (Nat.le_succ _) (by simp) ⟨by omega, by show s.ev.size + 500 * u ≤ s.ev.size + 500 * (u + 1); omega⟩ (Save.at_ hg1) h
 have hW := (hB.box hg0).weak (d := 1 + m) (k2 := 1) (by omega) (by omega)
 obtain ⟨s2, nv2, u2, he, r⟩ := hW
 exact ⟨he, s2, nv2, u2, he, r⟩
theorem mid_end {w W w2 : World} {b g : Nat} {B : Nat → Prop} {s s2 : RunS} {nv u m : Nat} (M : Mid w2 b (fun j => B j ∧ j ≠ g) s2 nv (u + 1)) (hc : s2.ch = s.ch) (ha : s.at_ ≤ s2.at_) (he : s2.ev.size ≤ s.ev.size + 500) (hg0 : w.grownBy W none) (hg1 : W.grownBy w2 (some b)) : WPost w b B s nv u (1 + m) (.returned (.tuple #[])) w2 := by
 have hB : BPost W b (fun j => B j ∧ j ≠ g) s nv u 1 1 (.returned (.tuple #[])) w2 := ⟨s2, nv, u + 1, rfl, M, hc, ha, by omega, ⟨by omega, by omega⟩, Save.at_ hg1⟩
 exact ⟨rfl, (hB.box hg0).weak (d := 1 + m) (k2 := 1) (by omega) (by omega)⟩
set_option maxHeartbeats 1600000 in
set_option maxRecDepth 100000 in
theorem within_quest (i : Inf) (b0 b1 : T) (h0 : BodyC b0) (h1 : BodyC b1) (w : World) (b : Nat) (B : Nat → Prop) (s : RunS) (nv u : Nat) (ok : Nat → Prop) (A : Option Addr) (c : Nat)
  (H : WithC w b B s nv u i b0 b1 ok A c) (hk : i.kind = 63) (hkn : (i.kind.toNat : Int) = 63) :
  Calls Tryd.prog 68 #[.pointer (some ⟨b, 0, none⟩), aggOf i (.slice A i.nb c)] w (WPost w b B s nv u (1 + (b0.count + b1.count))) := by
 have hnb := H.nok.br hk
 obtain ⟨g, _, _, _, rfl, _⟩ := H.bodies.at (j := 0) (by omega)
 have HH := Lib.hid H
 unfold aggOf
 rw [hkn, hnb]
 have HNB := Lib.hid hnb
 have H0 := Lib.hid h0
 have H1 := Lib.hid h1
 clear hk hkn H h0 h1 hnb
 go_enter Tryd.func68, Tryd.ntmps68
 go_wp2_with fail
 generalize hW : w.alloc (.cells #[.int .u8 63, .int .i64 i.at_, .int .i64 i.end_, .string i.vars, .slice (some ⟨g, 0, none⟩) 2 c, .string i.scope] 82) = W
 have HG0 := Lib.hid (show w.grownBy W none by rw [← hW]; exact World.grownBy_alloc w _ none)
 have hcell : W.heap[w.heap.size]? = some (.cells #[.int .u8 63, .int .i64 i.at_, .int .i64 i.end_, .string i.vars, .slice (some ⟨g, 0, none⟩) 2 c, .string i.scope] 82 (0, 0)) := by rw [← hW]; exact heap_alloc_new w _
 have HC := Lib.hid hcell
 have hbg : w.heap.size ≠ b := by have := HH.out.mid.run.lt; omega
 have M0 := Lib.hid (HH.out.mid.box HG0.out (Array.getElem?_eq_some_iff.1 hcell).1)
 clear hW hcell
 refine Calls.mono (take_any W b s ⟨#[108, 114]⟩ M0.out.run (by decide) (by have := M0.out.ch; omega) (by have := M0.out.ch; have := M0.out.at_; omega)) ?_
 rintro e w1 ⟨hg1, ⟨asked, ha, rfl, hr1⟩ | ⟨hlt, rfl, hr1⟩⟩
 ·have HM1 := Lib.hid ((M0.out.turn hr1 hg1 rfl rfl rfl rfl M0.out.at_ rfl (by
   rcases ha with e | e
   ·right; show asked.size = 2; rw [e]; rfl
   ·show asked.size = 0 ∨ asked.size = 2; rw [e]; exact M0.out.ask)).count)
  have HG1 := Lib.hid hg1
  clear hr1 hg1
  go_wp2_with fail
  go_end0
  exact mid_end HM1.out rfl (Nat.le_refl _) (Nat.le_add_right _ _) HG0.out HG1.out
 ·have HM1 := Lib.hid ((M0.out.turn hr1 hg1 rfl rfl rfl rfl hlt rfl M0.out.ask).count)
  have HG1 := Lib.hid hg1
  have hc1 : w1.heap[w.heap.size]? = some (.cells #[.int .u8 63, .int .i64 i.at_, .int .i64 i.end_, .string i.vars, .slice (some ⟨g, 0, none⟩) 2 c, .string i.scope] 82 (0, 0)) := (hg1.block _ (Array.getElem?_eq_some_iff.1 HC.out).1 (fun e => hbg (Option.some.inj e))).trans HC.out
  have n4 : w1.cell? ⟨w.heap.size, 4, none⟩ = some (.slice (some ⟨g, 0, none⟩) 2 c) := by simp [World.cell?, hc1]
  have hb1 : SBodies w1 ok i b0 b1 (some ⟨g, 0, none⟩) c := HH.out.bodies.keep (fun j hj hlt => (hg1.block j (Nat.lt_of_lt_of_le hlt HG0.out.size) (fun e => (HH.out.apart j hj).2 (Option.some.inj e))).trans (HG0.out.block j hlt (by simp)))
  obtain ⟨g', V0, d0, cs0, e0, hv0, hs0, ho0, _⟩ := hb1.at (j := 0) (by rw [HNB.out]; omega)
  obtain ⟨g'', V1, d1, cs1, e1, hv1, hs1, ho1, _⟩ := hb1.at (j := 1) (by rw [HNB.out]; omega)
  injection e0 with e0; injection e0 with e0; subst e0
  injection e1 with e1; injection e1 with e1; subst e1
  have hcost := HH.out.cost
  have hap : ∀ j, ok j → ¬ (B j ∧ j ≠ w.heap.size) ∧ j ≠ b := fun j hj => ⟨fun h => (HH.out.apart j hj).1 h.1, (HH.out.apart j hj).2⟩
  rw [Nat.add_assoc] at hcost
  have hco := (cost_one hcost).1
  have hle0 : b0.count * (1 + (s.ch.size - (s.at_ + 1))) ≤ (b0.count + b1.count) * (1 + (s.ch.size - s.at_ - 1)) := Nat.mul_le_mul (by omega) (by omega)
  have hle1 : b1.count * (1 + (s.ch.size - (s.at_ + 1))) ≤ (b0.count + b1.count) * (1 + (s.ch.size - s.at_ - 1)) := Nat.mul_le_mul (by omega) (by omega)
  have hnv : nv ≤ 2 * (u + 1) := by have := HH.out.mid.used.nv; omega
  have B0 := Lib.hid (H0.out w1 b _ _ nv (u + 1) ok _ cs0 HM1.out hnv hs0 ho0 hap (by show u + 1 + b0.count * (1 + (s.ch.size - (s.at_ + 1))) ≤ 1680; omega))
  have B1 := Lib.hid (H1.out w1 b _ _ nv (u + 1) ok _ cs1 HM1.out hnv hs1 ho1 hap (by show u + 1 + b1.count * (1 + (s.ch.size - (s.at_ + 1))) ≤ 1680; omega))
  have HLT := Lib.hid hlt
  simp only [if_true] at hv0
  simp only [show (1 : Nat) = 0 ↔ False by simp, if_false] at hv1
  have HCO := Lib.hid hco
  clear hco hle0 hle1 hcost hnv hs0 hs1 ho0 ho1 hap hb1 hr1 hg1 hc1
  generalize hx : s.ch[s.at_].toNat = x at *
  clear hx hlt
  by_cases hx1 : x = 108
  ·subst hx1
   go_wp2_with fail
   refine Calls.mono B0.out ?_
   intro e w2 hP
   have he : e = .returned (.tuple #[]) := by obtain ⟨_, _, _, h, _⟩ := hP; exact h
   have HP := Lib.hid hP
   clear hP
   subst he
   go_wp2_with fail
   go_end0
   exact taken_body HLT.out (Nat.le_add_right _ _) HG0.out HG1.out HP.out
  ·by_cases hx2 : x = 114
   ·subst hx2
    go_wp2_with fail
    refine Calls.mono B1.out ?_
    intro e w2 hP
    have he : e = .returned (.tuple #[]) := by obtain ⟨_, _, _, h, _⟩ := hP; exact h
    have HP := Lib.hid hP
    clear hP
    subst he
    go_wp2_with fail
    go_end0
    exact taken_body HLT.out (Nat.le_add_left _ _) HG0.out HG1.out HP.out
   ·have hd1 : ((x : Int) == 108) = false := by simp; omega
    have hd2 : ((x : Int) == 114) = false := by simp; omega
    clear hx1 hx2
    go_wp2_with fail
    go_end0
    exact mid_end HM1.out rfl (Nat.le_succ _) (Nat.le_add_right _ _) HG0.out HG1.out
end Go.Proofs.YtojhdfdhfajjjaaDoor
