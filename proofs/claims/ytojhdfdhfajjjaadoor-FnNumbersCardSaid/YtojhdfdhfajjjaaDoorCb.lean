/- Cb: texts of this proof, joined. -/
import Derived.Test.YtojhdfdhfajjjaaDoorCa
import Derived.Test.YtojhdfdhfajjjaaDoorRows
import Derived.WalkKit
import Derived.WalkSpells
import Derived.WalkLawsBesides
import Derived.Deep.QuietTactic
import Derived.BigQuiet
import Derived.Deep.Draws
import Derived.Lib.Hide
import Derived.Outline
import Derived.Maps.AppendAt
import Derived.Lib.Bytealg
import Derived.Maps.OwnOps
import Derived.Maps.Views
import Derived.Deep.RegionWith
import Derived.RegionTactic
import Derived.Handy
import Derived.Deep.LoopGhost
import Derived.Deep.AppendLies
import Derived.Deep.DeepCutAuto
import Derived.Deep.CutBlock
import Derived.Deep.RegionHeld3
import Derived.Deep.RegionLaw
namespace Go.Proofs.YtojhdfdhfajjjaaDoor
open Go.RowKit Pl
theorem grown_drewN (w : World) (k : Nat) (r : Option Nat) : w.grownBy (w.drewN k) r := ⟨rfl, rfl, rfl, Nat.le_refl _, fun _ _ _ => rfl⟩
theorem grown_set (w : World) (b i : Nat) (v : Value) : w.grownBy (w.setCell ⟨b, i, none⟩ v) (some b) :=
 ⟨rfl, rfl, rfl, by simp [World.setCell], fun j _ hj => Below.heap_setCell _ _ _ _ (fun e => hj (by rw [e]))⟩
theorem bAt_get {p : ByteArray} {n : Nat} (h : n < p.size) : p[n]'h = bAt p n := by
 unfold bAt Array.getD
 exact (dif_pos (show n < p.data.size from h)).symm
end Go.Proofs.YtojhdfdhfajjjaaDoor
namespace Go.Proofs.YtojhdfdhfajjjaaDoor
open Go.RowKit Pl
theorem indexByte_has (l : List UInt8) (c : UInt8) : decide (0 ≤ Lib.indexByte l c) = l.contains c := by
 induction l with
 | nil => rfl
 | cons b l ih =>
  unfold Lib.indexByte
  have hg := Lib.indexByte_ge l c
  by_cases hb : b = c
  ·subst hb; simp
  ·have hb' : (b == c) = false := by simpa using hb
   have hc : (c == b) = false := by simpa using fun e => hb e.symm
   rw [hb']
   simp only [Bool.false_eq_true, if_false]
   rw [List.contains_cons, hc, Bool.false_or, ← ih]
   by_cases hm : Lib.indexByte l c = -1
   ·simp [hm]
   ·have h1 : (Lib.indexByte l c == -1) = false := by simpa using hm
    rw [h1]
    simp only [Bool.false_eq_true, if_false]
    have e1 : decide (0 ≤ Lib.indexByte l c + 1) = true := by simp; omega
    have e2 : decide (0 ≤ Lib.indexByte l c) = true := by simp; omega
    rw [e1, e2]
end Go.Proofs.YtojhdfdhfajjjaaDoor
namespace Go.Proofs.YtojhdfdhfajjjaaDoor
open Go.RowKit Pl Go.Maps
theorem byte_eq (c d : UInt8) : ((c.toNat : Int) = (d.toNat : Int)) ↔ c = d := by
 constructor
 ·intro h; exact UInt8.toNat_inj.1 (by omega)
 ·rintro rfl; rfl
end Go.Proofs.YtojhdfdhfajjjaaDoor
namespace Go.Proofs.YtojhdfdhfajjjaaDoor
open Go.RowKit Pl
structure Own (w : World) (ok : Nat → Prop) (e : TypeId) (v : Value) (xs : List Value) : Prop where
 row : w.ownsRow 0 e 1 v xs.length xs
 let_ : ∀ k, v.ownBlock = some k → ok k
theorem Own.keep {w w' : World} {ok : Nat → Prop} {e : TypeId} {v : Value} {xs : List Value} (h : Own w ok e v xs) (hk : ∀ j, ok j → j < w.heap.size → w'.heap[j]? = w.heap[j]?) : Own w' ok e v xs := by
 refine ⟨⟨h.row.1, ?_⟩, h.let_⟩
 rcases h.row.2 with hn | ⟨g, cap, cur, hv, hb, hg, r⟩
 ·exact .inl hn
 ·refine .inr ⟨g, cap, cur, hv, hb, ?_, r⟩
  rw [hk g (h.let_ g (by rw [hv]; rfl)) (Array.getElem?_eq_some_iff.1 hg).1]
  exact hg
theorem Own.mono {w : World} {ok ok' : Nat → Prop} {e : TypeId} {v : Value} {xs : List Value} (h : Own w ok e v xs) (hk : ∀ j, ok j → ok' j) : Own w ok' e v xs := ⟨h.row, fun k hv => hk k (h.let_ k hv)⟩
theorem Own.bound {w : World} {ok : Nat → Prop} {e : TypeId} {v : Value} {xs : List Value} (h : Own w ok e v xs) : Own w (fun j => ok j ∧ j < w.heap.size) e v xs :=
 ⟨h.row, fun k hv => ⟨h.let_ k hv, (h.row.lt k hv).2⟩⟩
theorem Own.form {w : World} {ok : Nat → Prop} {e : TypeId} {v : Value} {xs : List Value} (h : Own w ok e v xs) : ∃ A c, v = .slice A xs.length c := by
 rcases h.row.2 with ⟨hv, hn⟩ | ⟨g, cap, cur, hv, _⟩
 ·exact ⟨none, 0, by rw [hv, hn]⟩
 ·exact ⟨_, cap, hv⟩
end Go.Proofs.YtojhdfdhfajjjaaDoor
namespace Go.Proofs.YtojhdfdhfajjjaaDoor
open Go.RowKit Pl
theorem keep_of {w w' : World} {b B : Nat} (hg : w.grownBy w' (some b)) (hb : b < B) : ∀ j, B ≤ j → j < w.heap.size → w'.heap[j]? = w.heap[j]? := fun j hj hlt => hg.block j hlt (by simp; omega)
end Go.Proofs.YtojhdfdhfajjjaaDoor
namespace Go.Proofs.YtojhdfdhfajjjaaDoor
open Go.RowKit Pl
theorem Own.drewN {w : World} {ok : Nat → Prop} {e : TypeId} {v : Value} {xs : List Value} (h : Own w ok e v xs) (k : Nat) : Own (w.drewN k) ok e v xs := Own.keep (w := w) (w' := w.drewN k) h (fun _ _ _ => rfl)
theorem append_assoc1 (i : Inf) (b0 b1 r : T) : ∀ acc : T, acc.append (.cons i b0 b1 r) = (acc.append (.cons i b0 b1 .nil)).append r
 | .nil => rfl
 | .cons j c0 c1 s => by simp only [T.append]; rw [append_assoc1 i b0 b1 r s]
theorem append_nil : ∀ t : T, t.append .nil = t
 | .nil => rfl
 | .cons j c0 c1 s => by simp only [T.append]; rw [append_nil s]
end Go.Proofs.YtojhdfdhfajjjaaDoor
namespace Go.Proofs.YtojhdfdhfajjjaaDoor
open Go.RowKit Pl
theorem empty_size {s : ByteArray} : s.toList.isEmpty = decide (s.size = 0) := by
 rw [Lib.toList_data]
 have h : s.data.toList.length = s.size := Array.length_toList
 cases hs : s.data.toList with
 | nil => rw [hs] at h; simp at h; simp [← h]
 | cons a l => rw [hs] at h; simp at h; simp [← h]
def SRd (w : World) (b : Nat) (p : ByteArray) (s : RS) : Prop := w.heap[b]? = some (.cells #[.string p, .int .i64 s.at_, .bool s.bad, .int .i64 s.dep] 96 (0, 0))
section
variable {w w' : World} {b : Nat} {p : ByteArray} {s : RS}
theorem SRd.c0 (h : SRd w b p s) : w.cell? ⟨b, 0, none⟩ = some (.string p) := by simp [World.cell?, show w.heap[b]? = _ from h]
theorem SRd.c1 (h : SRd w b p s) : w.cell? ⟨b, 1, none⟩ = some (.int .i64 s.at_) := by simp [World.cell?, show w.heap[b]? = _ from h]
theorem SRd.c2 (h : SRd w b p s) : w.cell? ⟨b, 2, none⟩ = some (.bool s.bad) := by simp [World.cell?, show w.heap[b]? = _ from h]
theorem SRd.c3 (h : SRd w b p s) : w.cell? ⟨b, 3, none⟩ = some (.int .i64 s.dep) := by simp [World.cell?, show w.heap[b]? = _ from h]
theorem SRd.fz (h : SRd w b p s) (i : Nat) : w.frozen? ⟨b, i, none⟩ = false := by simp [World.frozen?, show w.heap[b]? = _ from h]
theorem SRd.lt (h : SRd w b p s) : b < w.heap.size := (Array.getElem?_eq_some_iff.1 h).1
theorem SRd.grown (h : SRd w b p s) {r : Option Nat} (hg : w.grownBy w' r) (hr : some b ≠ r) : SRd w' b p s := (hg.block b h.lt hr).trans h
theorem SRd.far (h : SRd w b p s) {g i : Nat} (hb : b ≠ g) (v : Value) : SRd (w.setCell ⟨g, i, none⟩ v) b p s := (Below.heap_setCell w _ v b hb).trans h
theorem SRd.drewN (h : SRd w b p s) (k : Nat) : SRd (w.drewN k) b p s := h
theorem SRd.setAt (h : SRd w b p s) (n : Nat) : SRd (w.setCell ⟨b, 1, none⟩ (.int .i64 n)) b p ⟨n, s.bad, s.dep⟩ := by
 have h' : w.heap[b]? = _ := h
 simp [SRd, World.setCell, Array.getElem?_modify, h']
theorem SRd.setBad (h : SRd w b p s) (x : Bool) : SRd (w.setCell ⟨b, 2, none⟩ (.bool x)) b p ⟨s.at_, x, s.dep⟩ := by
 have h' : w.heap[b]? = _ := h
 simp [SRd, World.setCell, Array.getElem?_modify, h']
theorem SRd.setDep (h : SRd w b p s) (n : Nat) : SRd (w.setCell ⟨b, 3, none⟩ (.int .i64 n)) b p ⟨s.at_, s.bad, n⟩ := by
 have h' : w.heap[b]? = _ := h
 simp [SRd, World.setCell, Array.getElem?_modify, h']
end
def shiftIdx (i : Nat) (r : Int) : Int := if r = -1 then -1 else i + r
theorem shift_hit {l : List UInt8} {c : UInt8} {i : Nat} (hi : i < l.length) (hc : l[i] = c) : shiftIdx i (Lib.indexByte (l.drop i) c) = i := by
 rw [List.drop_eq_getElem_cons hi, Lib.indexByte, hc]
 simp [shiftIdx]
theorem shift_miss {l : List UInt8} {c : UInt8} {i : Nat} (hi : i < l.length) (hc : l[i] ≠ c) : shiftIdx i (Lib.indexByte (l.drop i) c) = shiftIdx (i + 1) (Lib.indexByte (l.drop (i + 1)) c) := by
 rw [List.drop_eq_getElem_cons hi, Lib.indexByte]
 have hb : (l[i] == c) = false := by simpa using hc
 have hg := Lib.indexByte_ge (l.drop (i + 1)) c
 rw [hb]
 simp only [Bool.false_eq_true, if_false]
 by_cases hm : Lib.indexByte (l.drop (i + 1)) c = -1
 ·simp [shiftIdx, hm]
 ·have h1 : (Lib.indexByte (l.drop (i + 1)) c == -1) = false := by simpa using hm
  rw [h1]
  simp only [Bool.false_eq_true, if_false, shiftIdx, if_neg hm]
  rw [if_neg (by omega)]
  omega
theorem shift_end {l : List UInt8} {c : UInt8} {i : Nat} (hi : l.length ≤ i) : shiftIdx i (Lib.indexByte (l.drop i) c) = -1 := by
 rw [List.drop_of_length_le hi]
 rfl
theorem shift_zero (l : List UInt8) (c : UInt8) : shiftIdx 0 (Lib.indexByte (l.drop 0) c) = Lib.indexByte l c := by
 rw [List.drop_zero]
 unfold shiftIdx
 split
 ·rename_i h; exact h.symm
 ·simp
theorem ret_int {k : IntKind} {a b : Int} (h : a = b) : Ending.returned (.int k a) = .returned (.int k b) := by rw [h]
set_option maxHeartbeats 400000 in
theorem find_any (s : ByteArray) (c : UInt8) (ci : Int) (hci : (c.toNat : Int) = ci) (w : World) (hs : s.size ≤ 9223372036854775807) :
  Calls Tryd.prog 71 #[.string s, .int .u8 ci] w fun e w' => e = .returned (.int .i64 (Lib.indexByte s.data.toList c)) ∧ w' = w := by
 have HC := Lib.hid hci
 clear hci
 go_enter Tryd.func71, Tryd.ntmps71
 go_wp2_with fail
 go_loop [5] (fun i => ∃ k : Nat, k ≤ s.size ∧ i = .int .i64 k ∧ Hid (shiftIdx k (Lib.indexByte (s.data.toList.drop k) c) = Lib.indexByte s.data.toList c)) (fun i => s.size - (intOf i).toNat)
 case atStart => exact ⟨0, Nat.zero_le _, rfl, shift_zero _ _⟩
 case round =>
  obtain ⟨k, hk, rfl, H⟩ := hrel
  by_cases hlt : k < s.size
  ·have hl : k < s.data.toList.length := by rw [Array.length_toList]; exact hlt
   have hget : s.data.toList[k] = s[k]'hlt := rfl
   by_cases hc : s[k]'hlt = c
   ·have hb : (((s[k]'hlt).toNat : Int) == ci) = true := by rw [hc, HC.out]; simp
    have HX := Lib.hid hc
    clear hc
    go_wp2_with fail
    go_ret
    exact ⟨ret_int ((shift_hit hl (hget.trans HX.out)).symm.trans H.out), rfl⟩
   ·have hb : (((s[k]'hlt).toNat : Int) == ci) = false := by
     rw [beq_eq_false_iff_ne, ← HC.out]
     intro h
     exact hc ((byte_eq _ _).1 h)
    have HX := Lib.hid hc
    clear hc
    go_wp2_with fail
    go_round
    case rel => exact ⟨k + 1, by omega, by go_num, by rw [← shift_miss hl (fun h => HX.out (hget.symm.trans h))]; exact H⟩
    case measure => simp [intOf]; omega
  ·have hge : s.data.toList.length ≤ k := by rw [Array.length_toList]; show s.size ≤ k; omega
   go_wp2_with fail
   go_ret
   exact ⟨ret_int ((shift_end hge).symm.trans H.out), rfl⟩
set_option maxHeartbeats 400000 in
theorem l1In_yes (n lo hi : Int) (w : World) (h1 : lo ≤ n) (h2 : n ≤ hi) : Calls Tryd.prog 72 #[.int .i64 n, .int .i64 lo, .int .i64 hi] w fun e w' => e = .returned (.bool true) ∧ w' = w := by
 have a : decide (lo ≤ n) = true := by simpa using h1
 have b : decide (n ≤ hi) = true := by simpa using h2
 go_enter Tryd.func72, Tryd.ntmps72
 go_wp2
 go_ret
 exact ⟨rfl, rfl⟩
set_option maxHeartbeats 400000 in
theorem l1In_no (n lo hi : Int) (w : World) (h : n < lo ∨ hi < n) : Calls Tryd.prog 72 #[.int .i64 n, .int .i64 lo, .int .i64 hi] w fun e w' => e = .returned (.bool false) ∧ w' = w := by
 rcases h with h | h
 ·have a : decide (lo ≤ n) = false := by simp; omega
  go_enter Tryd.func72, Tryd.ntmps72
  go_wp2
  go_ret
  exact ⟨rfl, rfl⟩
 ·by_cases h1 : lo ≤ n
  ·have a : decide (lo ≤ n) = true := by simpa using h1
   have b : decide (n ≤ hi) = false := by simp; omega
   go_enter Tryd.func72, Tryd.ntmps72
   go_wp2
   go_ret
   exact ⟨rfl, rfl⟩
  ·have a : decide (lo ≤ n) = false := by simp; omega
   go_enter Tryd.func72, Tryd.ntmps72
   go_wp2
   go_ret
   exact ⟨rfl, rfl⟩
set_option maxHeartbeats 400000 in
theorem is_any (w : World) (b : Nat) (p : ByteArray) (s : RS) (c : UInt8) (ci : Int) (hci : (c.toNat : Int) = ci) (hr : SRd w b p s) (hs : p.size ≤ 1048576) :
  Calls Tryd.prog 60 #[.pointer (some ⟨b, 0, none⟩), .int .u8 ci] w fun e w' => e = .returned (.tuple #[]) ∧ SRd w' b p (sis p c s) ∧ w.grownBy w' (some b) := by
 have h0 := hr.c0
 have h1 := hr.c1
 have hf1 := hr.fz 1
 have h2 := hr.c2
 have hf2 := hr.fz 2
 by_cases hn : s.at_ < p.size
 ·have g1 : decide (s.at_ < p.size) = true := by simpa using hn
  by_cases hc : bAt p s.at_ = c
  ·have g2 : (((p[s.at_]'hn).toNat : Int) == ci) = true := by rw [bAt_get hn, hc, hci]; simp
   have HE := Lib.hid (show sis p c s = ⟨s.at_ + 1, s.bad, s.dep⟩ by unfold sis; rw [if_pos (by simp [isAt, hn, hc])]; rfl)
   have HC := Lib.hid hc
   clear hc hci
   go_enter Tryd.func60, Tryd.ntmps60
   go_wp2_with fail
   go_quiet (fail)
   go_wp2_with fail
   go_end0
   exact ⟨rfl, by rw [HE.out]; exact (hr.drewN _).setAt (s.at_ + 1), World.grownBy.trans (grown_drewN w _ _) (grown_set _ _ _ _)⟩
  ·have g2 : (((p[s.at_]'hn).toNat : Int) == ci) = false := by
    rw [bAt_get hn, beq_eq_false_iff_ne, ← hci]
    intro h
    exact hc ((byte_eq _ _).1 h)
   have HE := Lib.hid (show sis p c s = ⟨s.at_, true, s.dep⟩ by unfold sis; rw [if_neg (by simp [isAt, hc])]; simp [badIf])
   have HC := Lib.hid hc
   clear hc hci
   go_enter Tryd.func60, Tryd.ntmps60
   go_wp2_with fail
   go_quiet (fail)
   go_wp2_with fail
   go_end0
   exact ⟨rfl, by rw [HE.out]; exact (hr.drewN _).setBad true, World.grownBy.trans (grown_drewN w _ _) (grown_set _ _ _ _)⟩
 ·have g1 : decide (s.at_ < p.size) = false := by simpa using hn
  have HE := Lib.hid (show sis p c s = ⟨s.at_, true, s.dep⟩ by unfold sis; rw [if_neg (by simp [isAt, hn])]; simp [badIf])
  clear hci
  go_enter Tryd.func60, Tryd.ntmps60
  go_wp2_with fail
  go_quiet (fail)
  go_wp2_with fail
  go_end0
  exact ⟨rfl, by rw [HE.out]; exact (hr.drewN _).setBad true, World.grownBy.trans (grown_drewN w _ _) (grown_set _ _ _ _)⟩
end Go.Proofs.YtojhdfdhfajjjaaDoor
namespace Go.Proofs.YtojhdfdhfajjjaaDoor
open Go.RowKit Pl
theorem find_neg {l : List UInt8} {c : UInt8} : decide (Lib.indexByte l c < 0) = !l.contains c := by
 rw [← indexByte_has]
 by_cases h : 0 ≤ Lib.indexByte l c
 ·simp [h]
 ·simp [h]; omega
set_option maxHeartbeats 400000 in
theorem variable_any (w : World) (b : Nat) (p f : ByteArray) (s : RS) (hr : SRd w b p s) (hs : p.size ≤ 1048576) (hf : f.size ≤ 9223372036854775807) :
  Calls Tryd.prog 59 #[.pointer (some ⟨b, 0, none⟩), .string f] w fun e w' => e = .returned (.string (svar p f s).1) ∧ SRd w' b p (svar p f s).2 ∧ w.grownBy w' (some b) := by
 have h0 := hr.c0
 have h1 := hr.c1
 have hf1 := hr.fz 1
 have h2 := hr.c2
 have hf2 := hr.fz 2
 by_cases hn : s.at_ < p.size
 ·have g1 : decide (p.size ≤ s.at_) = false := by simp; omega
  by_cases hc : has f (bAt p s.at_) = true
  ·have g2 : decide (Lib.indexByte f.data.toList (p[s.at_]'hn) < 0) = false := by rw [find_neg, bAt_get hn, show f.data.toList.contains (bAt p s.at_) = true from hc]; rfl
   have HE := Lib.hid (show svar p f s = (sub1 p s.at_, ⟨s.at_ + 1, s.bad, s.dep⟩) by unfold svar; rw [if_pos (by simp [hn, hc])]; rfl)
   clear hc
   go_enter Tryd.func59, Tryd.ntmps59
   go_wp2_with fail
   go_quiet ((go_at_call 71; exact Calls.quiet_of_same (find_any f (p[s.at_]'hn) _ rfl _ hf)))
   go_wp2_with fail
   generalize hW : (w.drewN nq).setCell ⟨b, 1, none⟩ (Value.int .i64 ((s.at_ : Int) + 1)) = W1
   have hr1 : SRd W1 b p ⟨s.at_ + 1, s.bad, s.dep⟩ := by rw [← hW]; exact (hr.drewN nq).setAt (s.at_ + 1)
   have g0 := hr1.c0
   have g1' := hr1.c1
   have hG : w.grownBy W1 (some b) := by rw [← hW]; exact World.grownBy.trans (grown_drewN w _ _) (grown_set _ _ _ _)
   have HW := Lib.hid hG
   clear hW h0 h1 hf1 h2 hf2 g1 g2 hG
   go_quiet (fail)
   go_wp2_with fail
   go_ret
   refine ⟨?_, by rw [HE.out]; exact hr1.drewN _, World.grownBy.trans HW.out (grown_drewN W1 _ _)⟩
   rw [HE.out]
   simp [sub1]
  ·have g2 : decide (Lib.indexByte f.data.toList (p[s.at_]'hn) < 0) = true := by rw [find_neg, bAt_get hn, show f.data.toList.contains (bAt p s.at_) = false from eq_false_of_ne_true hc]; rfl
   have HE := Lib.hid (show svar p f s = (letA, ⟨s.at_, true, s.dep⟩) by unfold svar; rw [if_neg (by simp [hc])]; simp [badIf])
   clear hc
   go_enter Tryd.func59, Tryd.ntmps59
   go_wp2_with fail
   go_quiet ((go_at_call 71; exact Calls.quiet_of_same (find_any f (p[s.at_]'hn) _ rfl _ hf)))
   go_wp2_with fail
   go_ret
   exact ⟨by rw [HE.out]; rfl, by rw [HE.out]; exact (hr.drewN _).setBad true, World.grownBy.trans (grown_drewN w _ _) (grown_set _ _ _ _)⟩
 ·have g1 : decide (p.size ≤ s.at_) = true := by simp; omega
  have HE := Lib.hid (show svar p f s = (letA, ⟨s.at_, true, s.dep⟩) by unfold svar; rw [if_neg (by simp [hn])]; simp [badIf])
  go_enter Tryd.func59, Tryd.ntmps59
  go_wp2_with fail
  go_quiet (fail)
  go_wp2_with fail
  go_ret
  exact ⟨by rw [HE.out]; rfl, by rw [HE.out]; exact (hr.drewN _).setBad true, World.grownBy.trans (grown_drewN w _ _) (grown_set _ _ _ _)⟩
theorem conv_byte (W : World) (x : Int) (g : Nat) (hg : W.heap.size = g) :
  (convert 22 9 (.slice (some ⟨g, 0, none⟩) 1 1)).run Tryd.prog (W.alloc (.cells #[.int .u8 x] 5)) = .ok (.string (strOfNums [x])) (W.alloc (.cells #[.int .u8 x] 5)) := by
 subst hg
 refine run_convert_bytes_arg (P := Tryd.prog) _ 22 5 Tryd.underlying22 Tryd.underlying5 W.heap.size 0 1 1 [x] rfl (fun i hi => ?_) 9 Tryd.underlying9
 obtain rfl : i = 0 := by omega
 simp
theorem nums_byte {p : ByteArray} {n : Nat} (h : n < p.size) : strOfNums [((p[n]'h).toNat : Int)] = sub1 p n := by
 apply ByteArray.ext
 apply Array.ext'
 rw [sub1_data h, bAt_get h]
 simp [strOfNums]
theorem svarsL_step {p ar acc : ByteArray} {s : RS} (hl : isLet p s.at_ = true) : svarsL p ar (p.size - s.at_) acc s = svarsL p ar (p.size - (s.at_ + 1)) (acc ++ sub1 p s.at_) ⟨s.at_ + 1, s.bad || has (ar ++ acc) (bAt p s.at_), s.dep⟩ := by
 have hlt := isLet_lt hl
 obtain ⟨k, hk⟩ : ∃ k, p.size - s.at_ = k + 1 := ⟨p.size - s.at_ - 1, by omega⟩
 rw [hk, show p.size - (s.at_ + 1) = k by omega, svarsL, if_pos hl]
 rfl
theorem svarsL_end {p ar acc : ByteArray} {s : RS} (hl : isLet p s.at_ = false) : svarsL p ar (p.size - s.at_) acc s = (acc, s) := by
 cases hk : p.size - s.at_ with
 | zero => rfl
 | succ k => rw [svarsL, if_neg (by simp [hl])]
def VarsRel (p ar : ByteArray) (b : Nat) (s0 : RS) (w : World) (k : Nat) (v : Value) (wr : World) : Prop :=
 ∃ acc s, v = .string acc ∧ svarsL p ar (p.size - s0.at_) ByteArray.empty s0 = svarsL p ar (p.size - s.at_) acc s ∧ SRd wr b p s ∧ w.grownBy wr (some b) ∧ s.at_ ≤ p.size ∧ acc.size + s0.at_ ≤ s.at_ ∧ k = p.size - s.at_ ∧ s.dep = s0.dep
theorem vars_eq {p ar acc : ByteArray} {s t : RS} (h : svarsL p ar (p.size - s.at_) ByteArray.empty s = svarsL p ar (p.size - t.at_) acc t) (hl : isLet p t.at_ = false) : svars p ar s = (acc, badIf (decide (acc.size = 0)) t) := by
 unfold svars
 rw [h, svarsL_end hl]
theorem vars_fst {p ar acc : ByteArray} {s t : RS} (h : svarsL p ar (p.size - s.at_) ByteArray.empty s = svarsL p ar (p.size - t.at_) acc t) (hl : isLet p t.at_ = false) : (svars p ar s).1 = acc := by
 rw [vars_eq h hl]
theorem vars_srd {p ar acc : ByteArray} {s t : RS} (h : svarsL p ar (p.size - s.at_) ByteArray.empty s = svarsL p ar (p.size - t.at_) acc t) (hl : isLet p t.at_ = false)
  {w : World} {b n : Nat} (hr : SRd w b p t) (x : Bool) (hx : x = (t.bad || acc.toList.isEmpty)) : SRd ((w.drewN n).setCell ⟨b, 2, none⟩ (.bool x)) b p (svars p ar s).2 := by
 rw [vars_eq h hl, hx, empty_size]
 exact (hr.drewN n).setBad _
set_option maxHeartbeats 800000 in
set_option maxRecDepth 1000000 in
theorem vars_any (w : World) (b : Nat) (p ar : ByteArray) (s : RS) (hr : SRd w b p s) (hs : p.size ≤ 80) (hat : s.at_ ≤ p.size) (har : ar.size ≤ 80) :
  Calls Tryd.prog 62 #[.pointer (some ⟨b, 0, none⟩), .string ar] w fun e w' => e = .returned (.string (svars p ar s).1) ∧ SRd w' b p (svars p ar s).2 ∧ w.grownBy w' (some b) := by
 have hcv := conv_byte
 go_enter Tryd.func62, Tryd.ntmps62
 go_wp2_with fail
 go_loopg [5] (p.size - s.at_) (fun k v wr => VarsRel p ar b s w k v wr)
 case atStart => exact ⟨ByteArray.empty, s, rfl, rfl, hr, World.grownBy.refl _ _, hat, by simp, rfl, rfl⟩
 case round =>
  obtain ⟨acc, t, rfl, he, hrt, hg, ht, hacc, rfl, hdep⟩ := hrel
  have HE := Lib.hid he
  have HG := Lib.hid hg
  have HD := Lib.hid hdep
  clear he hg hdep hr
  have h0 := hrt.c0
  have h1 := hrt.c1
  have h2 := hrt.c2
  have hf1 := hrt.fz 1
  have hf2 := hrt.fz 2
  by_cases hl : isLet p t.at_ = true
  ·have hlt := isLet_lt hl
   have g1 : decide (t.at_ < p.size) = true := by simpa using hlt
   have hlo := (isLet_let hl).1
   have hhi := (isLet_let hl).2
   have hlo' : (97 : Int) ≤ ((p[t.at_]'hlt).toNat : Int) := by rw [bAt_get hlt]; have := UInt8.le_iff_toNat_le.1 hlo; simp at this; omega
   have hhi' : ((p[t.at_]'hlt).toNat : Int) ≤ 102 := by rw [bAt_get hlt]; have := UInt8.le_iff_toNat_le.1 hhi; simp at this; omega
   have HL := Lib.hid hl
   clear hl hlo hhi
   go_wp2_with fail
   go_quiet ((go_at_call 72; exact Calls.quiet_of_same (l1In_yes _ _ _ _ hlo' hhi')))
   go_wp2_with fail
   go_quiet (fail)
   have hz1 : acc.size ≤ 80 := by omega
   have hz2 : ∀ x, (strOfNums [x]).size = 1 := fun x => strOfNums_size [x]
   have hal : ∀ (W : World) (o : Obj), W.cell? ⟨b, 1, none⟩ = some (.int .i64 t.at_) → (W.alloc o).cell? ⟨b, 1, none⟩ = some (.int .i64 t.at_) := fun W o h => (World.grownBy_alloc W o none).cell h (by simp)
   have hfl : ∀ (W : World) (o : Obj), W.cell? ⟨b, 1, none⟩ = some (.int .i64 t.at_) → (W.alloc o).frozen? ⟨b, 1, none⟩ = W.frozen? ⟨b, 1, none⟩ := fun W o h => World.frozen?_of_block ((World.grownBy_alloc W o none).block _ (World.block_lt_of_cell? W _ h) (by simp))
   by_cases hbad : t.bad = true
   ·rw [hbad] at h2
    have HB := Lib.hid hbad
    clear hbad
    go_wp2_with fail
    go_roundg (p.size - (t.at_ + 1))
    case measure => omega
    case rel =>
     refine ⟨acc ++ sub1 p t.at_, ⟨t.at_ + 1, true, t.dep⟩, by rw [nums_byte hlt], ?_, ((hrt.setBad true).grown (World.grownBy_alloc _ _ none) (by simp)).setAt (t.at_ + 1), ?_, hlt, ?_, rfl, HD.out⟩
     ·rw [HE.out, svarsL_step HL.out, HB.out]; rfl
     ·have a := World.grownBy.trans HG.out (grown_set wr b 2 (.bool true))
      have a2 := World.grownBy.trans a (World.grownBy_alloc (wr.setCell ⟨b, 2, none⟩ (.bool true)) (.cells #[.int .u8 ((p[t.at_]'hlt).toNat : Int)] 5) (some b))
      have a3 := World.grownBy.trans a2 (grown_set _ b 1 (.int .i64 ((t.at_ + 1 : Nat) : Int)))
      exact ⟨a3.os, a3.tape, a3.output, a3.size, a3.block⟩
     ·rw [ByteArray.size_append, sub1_size hlt]
      show acc.size + 1 + s.at_ ≤ t.at_ + 1
      omega
   ·have hbad' : t.bad = false := by simpa using hbad
    rw [hbad'] at h2
    have HB := Lib.hid hbad'
    clear hbad hbad'
    have hz3 : ar.size + acc.size ≤ 160 := by omega
    go_wp2_with fail
    refine (find_any (ar ++ acc) (p[t.at_]'hlt) _ rfl _ (by rw [ByteArray.size_append]; omega)).mono ?_
    rintro e w2 ⟨rfl, rfl⟩
    go_wp2_with fail
    go_roundg (p.size - (t.at_ + 1))
    case measure => omega
    case rel =>
     have hhas : decide (0 ≤ Lib.indexByte (ar ++ acc).data.toList (p[t.at_]'hlt)) = has (ar ++ acc) (bAt p t.at_) := by rw [indexByte_has, bAt_get hlt]; rfl
     refine ⟨acc ++ sub1 p t.at_, ⟨t.at_ + 1, has (ar ++ acc) (bAt p t.at_), t.dep⟩, by rw [nums_byte hlt], ?_, ?_, ?_, hlt, ?_, rfl, HD.out⟩
     ·rw [HE.out, svarsL_step HL.out, HB.out]; rfl
     ·rw [← hhas]
      exact ((hrt.setBad _).grown (World.grownBy_alloc _ _ none) (by simp)).setAt (t.at_ + 1)
     ·have a := World.grownBy.trans HG.out (grown_set wr b 2 (.bool (decide (0 ≤ Lib.indexByte (ar ++ acc).data.toList (p[t.at_]'hlt)))))
      have a2 := World.grownBy.trans a (World.grownBy_alloc _ (.cells #[.int .u8 ((p[t.at_]'hlt).toNat : Int)] 5) (some b))
      have a3 := World.grownBy.trans a2 (grown_set _ b 1 (.int .i64 ((t.at_ + 1 : Nat) : Int)))
      exact ⟨a3.os, a3.tape, a3.output, a3.size, a3.block⟩
     ·rw [ByteArray.size_append, sub1_size hlt]
      show acc.size + 1 + s.at_ ≤ t.at_ + 1
      omega
  ·have hl' : isLet p t.at_ = false := by simpa using hl
   have HL := Lib.hid hl'
   have hez : (acc.toList.isEmpty) = decide (acc.size = 0) := empty_size
   by_cases hlt : t.at_ < p.size
   ·have g1 : decide (t.at_ < p.size) = true := by simpa using hlt
    have hor : ((p[t.at_]'hlt).toNat : Int) < 97 ∨ 102 < ((p[t.at_]'hlt).toNat : Int) := by
     rw [bAt_get hlt]
     by_cases h97 : 97 ≤ bAt p t.at_
     ·right
      have h102 : ¬ (bAt p t.at_ ≤ 102) := fun h => hl (by simp [isLet, hlt, h97, h])
      have := UInt8.lt_iff_toNat_lt.1 (UInt8.not_le.1 h102)
      simp at this; omega
     ·left
      have := UInt8.lt_iff_toNat_lt.1 (UInt8.not_le.1 h97)
      simp at this; omega
    have hb0 : (0 : Int) ≤ ((p[t.at_]'hlt).toNat : Int) := by omega
    have hb1 : ((p[t.at_]'hlt).toNat : Int) ≤ 255 := by have := (p[t.at_]'hlt).toNat_lt; omega
    have HO := Lib.hid hor
    clear hl hl' hor
    have HZ := Lib.hid hez
    clear hez
    cases hb : t.bad
    all_goals
     rw [hb] at h2
     have HB := Lib.hid hb
     clear hb
     go_wp2_with fail
     go_quiet ((go_at_call 72; exact Calls.quiet_of_same (l1In_no _ _ _ _ HO.out)))
     go_wp2_with fail
     go_ret
     exact ⟨congrArg (fun x => Ending.returned (.string x)) (vars_fst HE.out HL.out).symm, vars_srd HE.out HL.out hrt _ (by rw [HB.out]; rfl), World.grownBy.trans HG.out (World.grownBy.trans (grown_drewN wr _ _) (grown_set _ _ _ _))⟩
   ·have g1 : decide (t.at_ < p.size) = false := by simpa using hlt
    have HZ := Lib.hid hez
    clear hl hl' hez
    cases hb : t.bad
    all_goals
     rw [hb] at h2
     have HB := Lib.hid hb
     clear hb
     go_wp2_with fail
     go_quiet (fail)
     go_wp2_with fail
     go_ret
     exact ⟨congrArg (fun x => Ending.returned (.string x)) (vars_fst HE.out HL.out).symm, vars_srd HE.out HL.out hrt _ (by rw [HB.out]; rfl), World.grownBy.trans HG.out (World.grownBy.trans (grown_drewN wr _ _) (grown_set _ _ _ _))⟩
end Go.Proofs.YtojhdfdhfajjjaaDoor
namespace Go.Proofs.YtojhdfdhfajjjaaDoor
open Go.RowKit Pl
structure Own6 (w : World) (ok : Nat → Prop) (v : Value) (n : Nat) (xs : List Value) : Prop where
 row : w.ownsRow 0 82 6 v n xs
 let_ : ∀ k, v.ownBlock = some k → ok k
theorem Own6.keep {w w' : World} {ok : Nat → Prop} {v : Value} {n : Nat} {xs : List Value} (h : Own6 w ok v n xs) (hk : ∀ j, ok j → j < w.heap.size → w'.heap[j]? = w.heap[j]?) : Own6 w' ok v n xs := by
 refine ⟨⟨h.row.1, ?_⟩, h.let_⟩
 rcases h.row.2 with hn | ⟨g, cap, cur, hv, hb, hg, r⟩
 ·exact .inl hn
 ·refine .inr ⟨g, cap, cur, hv, hb, ?_, r⟩
  rw [hk g (h.let_ g (by rw [hv]; rfl)) (Array.getElem?_eq_some_iff.1 hg).1]
  exact hg
theorem Own6.mono {w : World} {ok ok' : Nat → Prop} {v : Value} {n : Nat} {xs : List Value} (h : Own6 w ok v n xs) (hk : ∀ j, ok j → ok' j) : Own6 w ok' v n xs := ⟨h.row, fun k hv => hk k (h.let_ k hv)⟩
theorem Own6.bound {w : World} {ok : Nat → Prop} {v : Value} {n : Nat} {xs : List Value} (h : Own6 w ok v n xs) : Own6 w (fun j => ok j ∧ j < w.heap.size) v n xs :=
 ⟨h.row, fun k hv => ⟨h.let_ k hv, (h.row.lt k hv).2⟩⟩
theorem Own6.form {w : World} {ok : Nat → Prop} {v : Value} {n : Nat} {xs : List Value} (h : Own6 w ok v n xs) : ∃ A c, v = .slice A n c := by
 rcases h.row.2 with ⟨hv, hn⟩ | ⟨g, cap, cur, hv, _⟩
 ·exact ⟨none, 0, by rw [hv, hn]⟩
 ·exact ⟨_, cap, hv⟩
def six (i : Inf) (bs : Value) : List Value := [.int .u8 i.kind.toNat, .int .i64 i.at_, .int .i64 i.end_, .string i.vars, bs, .string i.scope]
def SCells (w : World) (ok : Nat → Prop) : T → List Value → Prop
 | .nil, cs => cs = []
 | .cons i b0 b1 r, cs => ∃ (bs v0 v1 : Value) (rest c0 c1 : List Value), cs = six i bs ++ rest ∧
   SCells w ok b0 c0 ∧ Own6 w ok v0 b0.len c0 ∧ SCells w ok b1 c1 ∧ Own6 w ok v1 b1.len c1 ∧
   i.nb ≤ 2 ∧ Own w ok 86 bs ([v0, v1].take i.nb) ∧ SCells w ok r rest
theorem SCells.keep {w w' : World} {ok : Nat → Prop} (hk : ∀ j, ok j → j < w.heap.size → w'.heap[j]? = w.heap[j]?) : ∀ {t : T} {cs : List Value}, SCells w ok t cs → SCells w' ok t cs
 | .nil, _, h => h
 | .cons i b0 b1 r, _, h => by
  obtain ⟨bs, v0, v1, rest, c0, c1, e, h0, o0, h1, o1, hn, ob, hr⟩ := h
  exact ⟨bs, v0, v1, rest, c0, c1, e, h0.keep hk, o0.keep hk, h1.keep hk, o1.keep hk, hn, ob.keep hk, hr.keep hk⟩
theorem SCells.mono {w : World} {ok ok' : Nat → Prop} (hk : ∀ j, ok j → ok' j) : ∀ {t : T} {cs : List Value}, SCells w ok t cs → SCells w ok' t cs
 | .nil, _, h => h
 | .cons i b0 b1 r, _, h => by
  obtain ⟨bs, v0, v1, rest, c0, c1, e, h0, o0, h1, o1, hn, ob, hr⟩ := h
  exact ⟨bs, v0, v1, rest, c0, c1, e, h0.mono hk, o0.mono hk, h1.mono hk, o1.mono hk, hn, ob.mono hk, hr.mono hk⟩
theorem SCells.bound {w : World} {ok : Nat → Prop} : ∀ {t : T} {cs : List Value}, SCells w ok t cs → SCells w (fun j => ok j ∧ j < w.heap.size) t cs
 | .nil, _, h => h
 | .cons i b0 b1 r, _, h => by
  obtain ⟨bs, v0, v1, rest, c0, c1, e, h0, o0, h1, o1, hn, ob, hr⟩ := h
  exact ⟨bs, v0, v1, rest, c0, c1, e, h0.bound, o0.bound, h1.bound, o1.bound, hn, ob.bound, hr.bound⟩
theorem SCells.append {w : World} {ok : Nat → Prop} {u : T} {ds : List Value} (hu : SCells w ok u ds) : ∀ {t : T} {cs : List Value}, SCells w ok t cs → SCells w ok (t.append u) (cs ++ ds)
 | .nil, cs, h => by
  have : cs = [] := h
  subst this
  exact hu
 | .cons i b0 b1 r, _, h => by
  obtain ⟨bs, v0, v1, rest, c0, c1, e, h0, o0, h1, o1, hn, ob, hr⟩ := h
  subst e
  exact ⟨bs, v0, v1, rest ++ ds, c0, c1, List.append_assoc .., h0, o0, h1, o1, hn, ob, SCells.append hu hr⟩
theorem len_append (u : T) : ∀ t : T, (t.append u).len = t.len + u.len
 | .nil => by simp [T.append, T.len]
 | .cons i b0 b1 r => by simp only [T.append, T.len]; rw [len_append u r]; omega
theorem info82 : (Tryd.prog.info? 82).map (fun i => (i.zero, i.size, i.bytes)) = some (some (.agg #[.int .u8 0, .int .i64 0, .int .i64 0, .string ByteArray.empty, .slice none 0 0, .string ByteArray.empty]), 6, 80) := by kernel_rfl
theorem cells_six_new (w : World) (i : Inf) (bs : Value) (t : TypeId) : ∀ j u, (six i bs)[j]? = some u → (w.alloc (.cells #[.int .u8 i.kind.toNat, .int .i64 i.at_, .int .i64 i.end_, .string i.vars, bs, .string i.scope] t)).cell? ((⟨w.heap.size, 0, none⟩ : Addr).add j) = some u := by
 exact World.news_of_block (cs := #[.int .u8 i.kind.toNat, .int .i64 i.at_, .int .i64 i.end_, .string i.vars, bs, .string i.scope]) (t := t) (fr := (0, 0)) (heap_alloc_new w _)
section
variable {P : Program} {ops : Array Oper} {rest : List Oper} {o : Oper} {a : Act} {Q : Exit → Act → World → Prop}
theorem wpList_app6 {W : World} {ok : Nat → Prop} (hgd : o.guard = none) (s x : Operand) (t : TypeId) (z : Value)
  (ho : o.op = .call { callee := .builtin .append, args := #[s, x], argTypes := #[t, t] })
  (ht : P.underlying t = some (.slice 82)) (hinfo : (P.info? 82).map (fun i => (i.zero, i.size, i.bytes)) = some (some z, 6, 80)) (hz : z.cells.size = 6)
  (v : Value) (n : Nat) (xs : List Value) (i : Inf) (bs : Value) (hs : a.eval s = v) (hx : a.eval x = .slice (some ⟨W.heap.size, 0, none⟩) 1 1) (h1 : bs.oneCell' = true)
  (HO : Own6 W ok v n xs) (hl : (n + 1) * 80 ≤ 140737488355328)
  (h : ∀ v1 w1, Own6 w1 (fun k => v.ownBlock = some k ∨ W.heap.size ≤ k) v1 (n + 1) (xs ++ six i bs) → W.grownBy w1 v.ownBlock → wpList P ops Q rest (a.put o.dst v1) w1) :
  wpList P ops Q (o :: rest) a (W.alloc (.cells #[.int .u8 i.kind.toNat, .int .i64 i.at_, .int .i64 i.end_, .string i.vars, bs, .string i.scope] 82)) := by
 obtain ⟨i0, hi, hzz⟩ := Option.map_eq_some_iff.1 hinfo
 simp only [Prod.mk.injEq] at hzz
 obtain ⟨hz0, hz1, hz2⟩ := hzz
 refine wpList_append_own_at _ hgd s x t ho 0 82 i0 z 6 80 ht hi hz0 hz1 hz2 hz (by omega) v n xs hs (HO.row.alloc _) ⟨W.heap.size, 0, none⟩ 1 1 (six i bs) hx rfl
  (cells_six_new W i bs 82) (fun u hu => by
   simp only [six, List.mem_cons, List.not_mem_nil, or_false] at hu
   rcases hu with rfl | rfl | rfl | rfl | rfl | rfl <;> first | rfl | exact h1) (by simp only [maxLen]; omega) hl (Nat.zero_le _) ?_
 intro v1 w1 hown hg _ hat
 refine h v1 w1 ⟨hown, fun k hk => ?_⟩ (World.grownBy.trans (World.grownBy_alloc W _ _) hg)
 rcases hat with hat | hat
 ·exact .inl (hat ▸ hk)
 ·rw [hat] at hk
  cases hk
  exact .inr (by simp)
end
theorem sapart_grown {w1 w2 : World} {ok : Nat → Prop} {n : Nat} {u v : Value} {ys : List Value} {t : T} {cs : List Value} (h : SCells w1 ok t cs) (hne : ∀ j, ok j → j < w1.heap.size → some j ≠ u.ownBlock) (hg : w1.grownBy w2 u.ownBlock)
  (ho : Own6 w2 (fun k => u.ownBlock = some k ∨ w1.heap.size ≤ k) v n ys) : SCells w2 (fun j => ok j ∧ some j ≠ v.ownBlock) t cs := by
 refine (h.bound.keep (fun j hj hlt => hg.block j hlt (hne j hj.1 hj.2))).mono (fun j hj => ⟨hj.1, fun hv => ?_⟩)
 rcases ho.let_ j hv.symm with hu | hu
 ·exact hne j hj.1 hj.2 hu.symm
 ·have := hj.2
  omega
def SStepC (p : ByteArray) (n : Nat) : Prop := ∀ (w : World) (b : Nat) (ar : ByteArray) (s : RS), SRd w b p s → s.at_ = n → n < p.size → ar.size ≤ n → s.dep ≤ n →
 Calls Tryd.prog 48 #[.pointer (some ⟨b, 0, none⟩), .string ar] w fun e w' => ∃ bs v0 v1 c0 c1,
  e = .returned (.agg #[.int .u8 (SStep p ar s).1.kind.toNat, .int .i64 (SStep p ar s).1.at_, .int .i64 (SStep p ar s).1.end_, .string (SStep p ar s).1.vars, bs, .string (SStep p ar s).1.scope]) ∧
  SRd w' b p (SStep p ar s).2.2.2 ∧ w.grownBy w' (some b) ∧
  SCells w' (fun j => w.heap.size ≤ j) (SStep p ar s).2.1 c0 ∧ Own6 w' (fun j => w.heap.size ≤ j) v0 (SStep p ar s).2.1.len c0 ∧
  SCells w' (fun j => w.heap.size ≤ j) (SStep p ar s).2.2.1 c1 ∧ Own6 w' (fun j => w.heap.size ≤ j) v1 (SStep p ar s).2.2.1.len c1 ∧
  (SStep p ar s).1.nb ≤ 2 ∧ Own w' (fun j => w.heap.size ≤ j) 86 bs ([v0, v1].take (SStep p ar s).1.nb)
def SBodyC (p : ByteArray) (n : Nat) : Prop := ∀ (w : World) (b : Nat) (ar : ByteArray) (s : RS) (e : UInt8) (ei : Int), (e.toNat : Int) = ei → SRd w b p s → s.at_ = n → n ≤ p.size → ar.size ≤ n → s.dep ≤ n →
 Calls Tryd.prog 61 #[.pointer (some ⟨b, 0, none⟩), .string ar, .int .u8 ei] w fun d w' => ∃ v cs,
  d = .returned v ∧ SRd w' b p (SBody p ar e s).2 ∧ w.grownBy w' (some b) ∧ SCells w' (fun j => w.heap.size ≤ j) (SBody p ar e s).1 cs ∧ Own6 w' (fun j => w.heap.size ≤ j) v (SBody p ar e s).1.len cs
def SBodyRel (p ar : ByteArray) (e : UInt8) (s : RS) (b : Nat) (w : World) (k : Nat) (v : Value) (wr : World) : Prop :=
 ∃ acc cs t, SLoop p ar e s = (acc.append (SLoop p ar e t).1, (SLoop p ar e t).2) ∧ SRd wr b p t ∧ t.at_ ≤ p.size ∧ s.at_ ≤ t.at_ ∧ k = p.size - t.at_ ∧ acc.len ≤ t.at_ ∧ t.dep = s.dep ∧
  SCells wr (fun j => w.heap.size ≤ j ∧ some j ≠ v.ownBlock) acc cs ∧ Own6 wr (fun j => w.heap.size ≤ j) v acc.len cs ∧ w.grownBy wr (some b)
set_option maxHeartbeats 400000 in
theorem sbody_any (p : ByteArray) (n : Nat) (hp : p.size ≤ 80) (hS : ∀ m, n ≤ m → SStepC p m) : SBodyC p n := by
 intro w b ar s e ei hei hr hsn hn har hdep
 subst hsn
 have hlt := hr.lt
 go_enter Tryd.func61, Tryd.ntmps61
 go_wp2_with fail
 go_loopg [7] (p.size - s.at_) (fun k v wr => SBodyRel p ar e s b w k v wr)
 case atStart =>
  exact ⟨.nil, [], s, rfl, hr.grown (World.grownBy_alloc w _ none) (by simp), hn, Nat.le_refl _, rfl, Nat.zero_le _, rfl, rfl,
   ⟨World.ownsRow_made w #[] 0 (Nat.zero_le _) (by simp [maxLen]) rfl, fun k hk => by simp [Value.ownBlock] at hk; omega⟩, World.grownBy_alloc w _ _⟩
 case round =>
  obtain ⟨acc, cs, t, he, hrt, ht, hst, rfl, hl, htd, hc, ho, hg⟩ := hrel
  have HE := Lib.hid he
  have HC := Lib.hid hc
  have HO := Lib.hid ho
  have HG := Lib.hid hg
  clear he hc ho hg
  have h0 := hrt.c0
  have h1 := hrt.c1
  have h2 := hrt.c2
  by_cases hk : t.bad = false ∧ t.at_ < p.size ∧ bAt p t.at_ ≠ e
  ·obtain ⟨hk0, hmlt, hk2⟩ := id hk
   have HK := Lib.hid hk
   rw [hk0] at h2
   have g1 : decide (t.at_ < p.size) = true := by simpa using hmlt
   have g2 : (((p[t.at_]'hmlt).toNat : Int) == ei) = false := by
    rw [bAt_get hmlt, beq_eq_false_iff_ne, ← hei]
    intro h
    exact hk2 ((byte_eq _ _).1 h)
   clear hk hk0 hk2 hei
   go_wp2_with fail
   go_quiet (fail)
   go_wp2_with fail
   refine (hS t.at_ hst (wr.drewN nq) b ar t (hrt.drewN nq) rfl hmlt (by omega) (by omega)).mono ?_
   rintro e1 w1 ⟨bs, v0, v1, c0, c1, rfl, hr1, hg1', sc0, so0, sc1, so1, hnb, sbs⟩
   have hg1 := World.grownBy.trans (grown_drewN wr nq _) hg1'
   clear hg1'
   have hgt : t.at_ < (SStep p ar t).2.2.2.at_ := SStep_ge p ar t hmlt
   have hle1 : (SStep p ar t).2.2.2.at_ ≤ p.size := SStep_le hmlt
   have hdp : (SStep p ar t).2.2.2.dep = t.dep := SStep_dep hmlt
   have hL : SLoop p ar e t = (.cons (SStep p ar t).1 (SStep p ar t).2.1 (SStep p ar t).2.2.1 (SLoop p ar e (SStep p ar t).2.2.2).1, (SLoop p ar e (SStep p ar t).2.2.2).2) := by rw [SLoop_eq, if_pos HK.out]
   obtain ⟨A, mm, cp, rfl⟩ : ∃ A m c, bs = .slice A m c := by
    obtain ⟨A, c, h⟩ := sbs.form
    exact ⟨A, _, c, h⟩
   generalize hq : SStep p ar t = q at *
   obtain ⟨i, b0, b1, s1⟩ := q
   simp only at *
   have hle := HG.out.size
   have hk1 := keep_of (B := w.heap.size) hg1 hlt
   have hacc : SCells w1 (fun j => w.heap.size ≤ j ∧ some j ≠ u7.ownBlock) acc cs := HC.out.keep (fun j hj hlt => hk1 j hj.1 hlt)
   have hout : Own6 w1 (fun j => w.heap.size ≤ j) u7 acc.len cs := HO.out.keep (fun j hj hlt => hk1 j hj hlt)
   have hlow : ∀ k, u7.ownBlock = some k → w.heap.size ≤ k ∧ k < wr.heap.size := fun k hk => HO.out.bound.let_ k hk
   have hbn : some b ≠ u7.ownBlock := fun hk => by have := (hlow b hk.symm).1; omega
   have hnew : SCells w1 (fun j => wr.heap.size ≤ j) (.cons i b0 b1 .nil) (six i (.slice A mm cp)) := ⟨_, v0, v1, [], c0, c1, (List.append_nil _).symm, sc0, so0, sc1, so1, hnb, sbs, rfl⟩
   have X1 := Lib.hid hacc
   have X2 := Lib.hid hout
   have X3 := Lib.hid hnew
   have X4 := Lib.hid hg1
   have X5 := Lib.hid hlow
   have X6 := Lib.hid hbn
   have X7 := Lib.hid hL
   have X8 := Lib.hid hdp
   have hle1' := hg1.size
   have hcl : (acc.len + 1) * 80 ≤ 140737488355328 := by omega
   clear hacc hout hnew hg1 h0 h1 h2 g1 g2 hk1 hlow hbn hL hdp sc0 so0 sc1 so1 hnb sbs hq
   go_wp2_with (at_builtin; refine wpList_app6 rfl _ _ 86 (.agg #[.int .u8 0, .int .i64 0, .int .i64 0, .string ByteArray.empty, .slice none 0 0, .string ByteArray.empty]) rfl Tryd.underlying86 info82 rfl u7 acc.len cs i (.slice A mm cp) rfl rfl rfl X2.out hcl ?_)
   intro v2 w2 ho2 hg2
   go_wp2_with fail
   go_roundg (p.size - s1.at_)
   case measure => omega
   case rel =>
    have hA := sapart_grown X1.out (fun j hj _ => hj.2) hg2 ho2
    have hN := sapart_grown X3.out (fun j hj _ hk => by have := (X5.out j hk.symm).2; omega) hg2 ho2
    refine ⟨acc.append (.cons i b0 b1 .nil), cs ++ six i (.slice A mm cp), s1, ?_, hr1.grown hg2 X6.out, hle1, by omega, rfl, by rw [len_append]; simp only [T.len]; omega, X8.out.trans htd,
     SCells.append (hN.mono (fun j hj => ⟨by omega, hj.2⟩)) (hA.mono (fun j hj => ⟨hj.1.1, hj.2⟩)), (len_append (.cons i b0 b1 .nil) acc) ▸ ho2.mono (fun j hj => ?_), ?_⟩
    ·rw [HE.out, X7.out]
     simp only []
     rw [append_assoc1]
    ·rcases hj with hj | hj
     ·exact (X5.out j hj).1
     ·omega
    ·exact (World.grownBy.trans HG.out X4.out).andThen hg2 (fun j hj => .inl (X5.out j hj).1)
  ·have hL : SLoop p ar e t = (.nil, t) := by rw [SLoop_eq, if_neg hk]
   have HB : SBody p ar e s = (acc, sis p e t) := by rw [SBody_eq, HE.out, hL, append_nil]
   have XB := Lib.hid HB
   have hkk : t.bad = true ∨ (t.bad = false ∧ ¬ t.at_ < p.size) ∨ (t.bad = false ∧ ∃ h : t.at_ < p.size, bAt p t.at_ = e) := by
    cases hb : t.bad
    ·right
     by_cases hm : t.at_ < p.size
     ·right
      refine ⟨rfl, hm, ?_⟩
      by_cases hbe : bAt p t.at_ = e
      ·exact hbe
      ·exact absurd ⟨hb, hm, hbe⟩ hk
     ·exact .inl ⟨rfl, hm⟩
    ·exact .inl rfl
   clear hk hL HB
   obtain ⟨A, cp, rfl⟩ := HO.out.form
   have HI := Lib.hid hei
   clear hei
   rcases hkk with hb | ⟨hb, hm⟩ | ⟨hb, hm, hbe⟩
   ·rw [hb] at h2
    clear hb
    go_wp2_with fail
    go_quiet (fail)
    go_wp2_with fail
    refine (is_any (wr.drewN nq) b p t e ei HI.out (hrt.drewN nq) (by omega)).mono ?_
    rintro e1 w1 ⟨rfl, hr1, hg1⟩
    have hg := World.grownBy.trans HG.out (World.grownBy.trans (grown_drewN wr nq _) hg1)
    have hk1 := keep_of (B := w.heap.size) (World.grownBy.trans (grown_drewN wr nq _) hg1) hlt
    have hcc : SCells w1 (fun j => w.heap.size ≤ j) acc cs := (HC.out.keep (fun j hj hlt => hk1 j hj.1 hlt)).mono (fun j hj => hj.1)
    have hoo : Own6 w1 (fun j => w.heap.size ≤ j) (.slice A acc.len cp) acc.len cs := HO.out.keep (fun j hj hlt => hk1 j hj hlt)
    have Y1 := Lib.hid hcc
    have Y2 := Lib.hid hoo
    have Y3 := Lib.hid hg
    clear hg1 hg hk1 hcc hoo
    go_wp2_with fail
    go_ret
    exact ⟨_, cs, rfl, by rw [XB.out]; exact hr1, Y3.out, by rw [XB.out]; exact Y1.out, by rw [XB.out]; exact Y2.out⟩
   ·rw [hb] at h2
    have g1 : decide (t.at_ < p.size) = false := by simpa using hm
    clear hb
    go_wp2_with fail
    go_quiet (fail)
    go_wp2_with fail
    refine (is_any (wr.drewN nq) b p t e ei HI.out (hrt.drewN nq) (by omega)).mono ?_
    rintro e1 w1 ⟨rfl, hr1, hg1⟩
    have hg := World.grownBy.trans HG.out (World.grownBy.trans (grown_drewN wr nq _) hg1)
    have hk1 := keep_of (B := w.heap.size) (World.grownBy.trans (grown_drewN wr nq _) hg1) hlt
    have hcc : SCells w1 (fun j => w.heap.size ≤ j) acc cs := (HC.out.keep (fun j hj hlt => hk1 j hj.1 hlt)).mono (fun j hj => hj.1)
    have hoo : Own6 w1 (fun j => w.heap.size ≤ j) (.slice A acc.len cp) acc.len cs := HO.out.keep (fun j hj hlt => hk1 j hj hlt)
    have Y1 := Lib.hid hcc
    have Y2 := Lib.hid hoo
    have Y3 := Lib.hid hg
    clear hg1 hg hk1 hcc hoo
    go_wp2_with fail
    go_ret
    exact ⟨_, cs, rfl, by rw [XB.out]; exact hr1, Y3.out, by rw [XB.out]; exact Y1.out, by rw [XB.out]; exact Y2.out⟩
   ·rw [hb] at h2
    have g1 : decide (t.at_ < p.size) = true := by simpa using hm
    have g2 : (((p[t.at_]'hm).toNat : Int) == ei) = true := by rw [bAt_get hm, hbe, HI.out]; simp
    clear hb hbe
    go_wp2_with fail
    go_quiet (fail)
    go_wp2_with fail
    refine (is_any (wr.drewN nq) b p t e ei HI.out (hrt.drewN nq) (by omega)).mono ?_
    rintro e1 w1 ⟨rfl, hr1, hg1⟩
    have hg := World.grownBy.trans HG.out (World.grownBy.trans (grown_drewN wr nq _) hg1)
    have hk1 := keep_of (B := w.heap.size) (World.grownBy.trans (grown_drewN wr nq _) hg1) hlt
    have hcc : SCells w1 (fun j => w.heap.size ≤ j) acc cs := (HC.out.keep (fun j hj hlt => hk1 j hj.1 hlt)).mono (fun j hj => hj.1)
    have hoo : Own6 w1 (fun j => w.heap.size ≤ j) (.slice A acc.len cp) acc.len cs := HO.out.keep (fun j hj hlt => hk1 j hj hlt)
    have Y1 := Lib.hid hcc
    have Y2 := Lib.hid hoo
    have Y3 := Lib.hid hg
    clear hg1 hg hk1 hcc hoo
    go_wp2_with fail
    go_ret
    exact ⟨_, cs, rfl, by rw [XB.out]; exact hr1, Y3.out, by rw [XB.out]; exact Y1.out, by rw [XB.out]; exact Y2.out⟩
end Go.Proofs.YtojhdfdhfajjjaaDoor
namespace Go.Proofs.YtojhdfdhfajjjaaDoor
open Go.RowKit Pl
def SNode (w : World) (g : Nat) (k : UInt8) (n en : Nat) (vs : ByteArray) (bs : Value) (sc : ByteArray) : Prop := w.heap[g]? = some (.cells #[.int .u8 k.toNat, .int .i64 n, .int .i64 en, .string vs, bs, .string sc] 82 (0, 0))
section
variable {w w' : World} {g : Nat} {k : UInt8} {n en : Nat} {vs sc : ByteArray} {bs : Value}
theorem SNode.c0 (h : SNode w g k n en vs bs sc) : w.cell? ⟨g, 0, none⟩ = some (.int .u8 k.toNat) := by simp [World.cell?, show w.heap[g]? = _ from h]
theorem SNode.c1 (h : SNode w g k n en vs bs sc) : w.cell? ⟨g, 1, none⟩ = some (.int .i64 n) := by simp [World.cell?, show w.heap[g]? = _ from h]
theorem SNode.c2 (h : SNode w g k n en vs bs sc) : w.cell? ⟨g, 2, none⟩ = some (.int .i64 en) := by simp [World.cell?, show w.heap[g]? = _ from h]
theorem SNode.c3 (h : SNode w g k n en vs bs sc) : w.cell? ⟨g, 3, none⟩ = some (.string vs) := by simp [World.cell?, show w.heap[g]? = _ from h]
theorem SNode.c4 (h : SNode w g k n en vs bs sc) : w.cell? ⟨g, 4, none⟩ = some bs := by simp [World.cell?, show w.heap[g]? = _ from h]
theorem SNode.c5 (h : SNode w g k n en vs bs sc) : w.cell? ⟨g, 5, none⟩ = some (.string sc) := by simp [World.cell?, show w.heap[g]? = _ from h]
theorem SNode.fz (h : SNode w g k n en vs bs sc) (i : Nat) : w.frozen? ⟨g, i, none⟩ = false := by simp [World.frozen?, show w.heap[g]? = _ from h]
theorem SNode.lt (h : SNode w g k n en vs bs sc) : g < w.heap.size := (Array.getElem?_eq_some_iff.1 h).1
theorem SNode.grown (h : SNode w g k n en vs bs sc) {r : Option Nat} (hg : w.grownBy w' r) (hr : some g ≠ r) : SNode w' g k n en vs bs sc := (hg.block g h.lt hr).trans h
theorem SNode.far (h : SNode w g k n en vs bs sc) {b i : Nat} (hb : g ≠ b) (v : Value) : SNode (w.setCell ⟨b, i, none⟩ v) g k n en vs bs sc := (Below.heap_setCell w _ v g hb).trans h
theorem SNode.drewN (h : SNode w g k n en vs bs sc) (m : Nat) : SNode (w.drewN m) g k n en vs bs sc := h
theorem SNode.setVars (h : SNode w g k n en vs bs sc) (m : ByteArray) : SNode (w.setCell ⟨g, 3, none⟩ (.string m)) g k n en m bs sc := by
 have h' : w.heap[g]? = _ := h
 simp [SNode, World.setCell, Array.getElem?_modify, h']
theorem SNode.setBodies (h : SNode w g k n en vs bs sc) (m : Value) : SNode (w.setCell ⟨g, 4, none⟩ m) g k n en vs m sc := by
 have h' : w.heap[g]? = _ := h
 simp [SNode, World.setCell, Array.getElem?_modify, h']
end
def SHead (w : World) (b : Nat) (p ar : ByteArray) (s : RS) (v5 : Value) (w1 : World) : Prop :=
 ∃ g gb, v5 = .pointer (some ⟨g, 0, none⟩) ∧ SRd w1 b p s ∧ w.grownBy w1 (some b) ∧ SNode w1 g (bAt p s.at_) s.at_ 0 ByteArray.empty (.slice (some ⟨gb, 0, none⟩) 0 0) ar ∧ w.heap.size < g ∧ w.heap.size < gb ∧ gb ≠ g ∧
  SNode w1 w.heap.size 0 0 0 ByteArray.empty (.slice none 0 0) ByteArray.empty ∧ w1.heap[gb]? = some (.cells #[] 86 (0, 0))
theorem heap_alloc_old (W : World) (o o' : Obj) : ((W.alloc o).alloc o').heap[W.heap.size]? = some o := ((World.grownBy_alloc (W.alloc o) o' none).block W.heap.size (by simp) (by simp)).trans (heap_alloc_new W o)
theorem heap_alloc_next (W : World) (o o' : Obj) : ((W.alloc o).alloc o').heap[W.heap.size + 1]? = some o' := by
 have h := heap_alloc_new (W.alloc o) o'
 simpa using h
theorem shead1 {w W0 : World} {b : Nat} {p ar : ByteArray} {s : RS} (hn : s.at_ < p.size) (hW : w.alloc (.cells #[.int .u8 0, .int .i64 0, .int .i64 0, .string { data := #[] }, .slice none 0 0, .string { data := #[] }] 82) = W0)
  (hr : SRd ((W0.alloc (.cells #[] 86)).alloc (.cells #[.int .u8 (p[s.at_]'hn).toNat, .int .i64 s.at_, .int .i64 0, .string { data := #[] }, .slice (some ⟨W0.heap.size, 0, none⟩) 0 0, .string ar] 82)) b p s) :
  SHead w b p ar s (.pointer (some ⟨W0.heap.size + 1, 0, none⟩)) ((W0.alloc (.cells #[] 86)).alloc (.cells #[.int .u8 (p[s.at_]'hn).toNat, .int .i64 s.at_, .int .i64 0, .string { data := #[] }, .slice (some ⟨W0.heap.size, 0, none⟩) 0 0, .string ar] 82)).drew := by
 have hs : W0.heap.size = w.heap.size + 1 := by rw [← hW]; simp
 have hg0 : w.grownBy W0 (some b) := by rw [← hW]; exact World.grownBy_alloc w _ _
 have hg : W0.grownBy ((W0.alloc (.cells #[] 86)).alloc (.cells #[.int .u8 (p[s.at_]'hn).toNat, .int .i64 s.at_, .int .i64 0, .string { data := #[] }, .slice (some ⟨W0.heap.size, 0, none⟩) 0 0, .string ar] 82)) none := World.grownBy.trans (World.grownBy_alloc W0 _ _) (World.grownBy_alloc _ _ _)
 refine ⟨W0.heap.size + 1, W0.heap.size, rfl, hr.drewN 1, ?_, ?_, by omega, by omega, by omega, ?_, ?_⟩
 ·exact World.grownBy.trans (hg0.andThen hg (fun j hj => by cases hj)) (grown_drewN _ 1 _)
 ·rw [← bAt_get hn]
  exact heap_alloc_next W0 _ _
 ·show ((W0.alloc _).alloc _).heap[w.heap.size]? = _
  rw [hg.block _ (by omega) (by simp), ← hW]
  exact heap_alloc_new w _
 ·exact heap_alloc_old W0 _ _
theorem shead2 {w W0 : World} {b : Nat} {p ar : ByteArray} {s : RS} (hn : s.at_ < p.size) (hW : w.alloc (.cells #[.int .u8 0, .int .i64 0, .int .i64 0, .string { data := #[] }, .slice none 0 0, .string { data := #[] }] 82) = W0)
  (hr : SRd ((W0.alloc (.cells #[.int .u8 (p[s.at_]'hn).toNat, .int .i64 s.at_, .int .i64 0, .string { data := #[] }, .slice (some ⟨W0.heap.size + 1, 0, none⟩) 0 0, .string ar] 82)).alloc (.cells #[] 86)) b p s) :
  SHead w b p ar s (.pointer (some ⟨W0.heap.size, 0, none⟩)) ((W0.alloc (.cells #[.int .u8 (p[s.at_]'hn).toNat, .int .i64 s.at_, .int .i64 0, .string { data := #[] }, .slice (some ⟨W0.heap.size + 1, 0, none⟩) 0 0, .string ar] 82)).alloc (.cells #[] 86)).drew := by
 have hs : W0.heap.size = w.heap.size + 1 := by rw [← hW]; simp
 have hg0 : w.grownBy W0 (some b) := by rw [← hW]; exact World.grownBy_alloc w _ _
 have hg : W0.grownBy ((W0.alloc (.cells #[.int .u8 (p[s.at_]'hn).toNat, .int .i64 s.at_, .int .i64 0, .string { data := #[] }, .slice (some ⟨W0.heap.size + 1, 0, none⟩) 0 0, .string ar] 82)).alloc (.cells #[] 86)) none := World.grownBy.trans (World.grownBy_alloc W0 _ _) (World.grownBy_alloc _ _ _)
 refine ⟨W0.heap.size, W0.heap.size + 1, rfl, hr.drewN 1, ?_, ?_, by omega, by omega, by omega, ?_, ?_⟩
 ·exact World.grownBy.trans (hg0.andThen hg (fun j hj => by cases hj)) (grown_drewN _ 1 _)
 ·rw [← bAt_get hn]
  exact heap_alloc_old W0 _ _
 ·show ((W0.alloc _).alloc _).heap[w.heap.size]? = _
  rw [hg.block _ (by omega) (by simp), ← hW]
  exact heap_alloc_new w _
 ·exact heap_alloc_next W0 _ _
def SMid (w : World) (b : Nat) (p ar : ByteArray) (s : RS) (g : Nat) (w2 : World) : Prop := ∃ bs v0 v1 c0 c1,
 SRd w2 b p (SStep p ar s).2.2.2 ∧ w.grownBy w2 (some b) ∧ SNode w2 g (SStep p ar s).1.kind (SStep p ar s).1.at_ 0 (SStep p ar s).1.vars bs (SStep p ar s).1.scope ∧
 SNode w2 w.heap.size 0 0 0 ByteArray.empty (.slice none 0 0) ByteArray.empty ∧
 SCells w2 (fun j => w.heap.size < j ∧ j ≠ g) (SStep p ar s).2.1 c0 ∧ Own6 w2 (fun j => w.heap.size < j ∧ j ≠ g) v0 (SStep p ar s).2.1.len c0 ∧
 SCells w2 (fun j => w.heap.size < j ∧ j ≠ g) (SStep p ar s).2.2.1 c1 ∧ Own6 w2 (fun j => w.heap.size < j ∧ j ≠ g) v1 (SStep p ar s).2.2.1.len c1 ∧
 (SStep p ar s).1.nb ≤ 2 ∧ Own w2 (fun j => w.heap.size < j ∧ j ≠ g) 86 bs ([v0, v1].take (SStep p ar s).1.nb) ∧ (SStep p ar s).1.end_ = (SStep p ar s).2.2.2.at_
def SStepP (p : ByteArray) (w : World) (b : Nat) (ar : ByteArray) (s : RS) : Prop :=
 Calls Tryd.prog 48 #[.pointer (some ⟨b, 0, none⟩), .string ar] w fun e w' => ∃ bs v0 v1 c0 c1,
  e = .returned (.agg #[.int .u8 (SStep p ar s).1.kind.toNat, .int .i64 (SStep p ar s).1.at_, .int .i64 (SStep p ar s).1.end_, .string (SStep p ar s).1.vars, bs, .string (SStep p ar s).1.scope]) ∧
  SRd w' b p (SStep p ar s).2.2.2 ∧ w.grownBy w' (some b) ∧
  SCells w' (fun j => w.heap.size ≤ j) (SStep p ar s).2.1 c0 ∧ Own6 w' (fun j => w.heap.size ≤ j) v0 (SStep p ar s).2.1.len c0 ∧
  SCells w' (fun j => w.heap.size ≤ j) (SStep p ar s).2.2.1 c1 ∧ Own6 w' (fun j => w.heap.size ≤ j) v1 (SStep p ar s).2.2.1.len c1 ∧
  (SStep p ar s).1.nb ≤ 2 ∧ Own w' (fun j => w.heap.size ≤ j) 86 bs ([v0, v1].take (SStep p ar s).1.nb)
def setSix (w : World) (r : Nat) (k : UInt8) (n en : Nat) (vs : ByteArray) (bs : Value) (sc : ByteArray) : World :=
 (((((w.setCell ⟨r, 0, none⟩ (.int .u8 k.toNat)).setCell ⟨r, 1, none⟩ (.int .i64 n)).setCell ⟨r, 2, none⟩ (.int .i64 en)).setCell ⟨r, 3, none⟩ (.string vs)).setCell ⟨r, 4, none⟩ bs).setCell ⟨r, 5, none⟩ (.string sc)
section
variable {w w' : World} {r : Nat} {k k' : UInt8} {n en n' en' : Nat} {vs sc vs' sc' : ByteArray} {bs bs' : Value}
theorem SNode.setSix (h : SNode w r k n en vs bs sc) : SNode (setSix w r k' n' en' vs' bs' sc') r k' n' en' vs' bs' sc' := by
 have h' : w.heap[r]? = _ := h
 simp [SNode, YtojhdfdhfajjjaaDoor.setSix, World.setCell, Array.getElem?_modify, h']
theorem setSix_far {j : Nat} (h : j ≠ r) : (setSix w r k n en vs bs sc).heap[j]? = w.heap[j]? := by
 unfold setSix
 repeat rw [Below.heap_setCell _ _ _ j (by simpa using h)]
theorem setSix_grown (w : World) : w.grownBy (setSix w r k n en vs bs sc) (some r) :=
 World.grownBy.trans (World.grownBy.trans (World.grownBy.trans (World.grownBy.trans (World.grownBy.trans (grown_set _ _ _ _) (grown_set _ _ _ _)) (grown_set _ _ _ _)) (grown_set _ _ _ _)) (grown_set _ _ _ _)) (grown_set _ _ _ _)
end
theorem results56 : Tryd.f48.results = #[ResultVar.cell 4 82] := by kernel_rfl
theorem loadVar46 {w : World} {r : Nat} {k : UInt8} {n en : Nat} {vs sc : ByteArray} {bs : Value} (h : SNode w r k n en vs bs sc) :
  (loadVar 82 (⟨r, 0, none⟩ : Addr)).run Tryd.prog w = .ok (.agg #[.int .u8 k.toNat, .int .i64 n, .int .i64 en, .string vs, bs, .string sc]) w := by
 have c0 := h.c0
 have c1 := h.c1
 have c2 := h.c2
 have c3 := h.c3
 have c4 := h.c4
 have c5 := h.c5
 unfold loadVar
 go_simp
theorem ret56 {w : World} {r : Nat} {k : UInt8} {n en : Nat} {vs sc : ByteArray} {bs : Value} {tmps : Array Value} (ht : tmps[4]?.getD undef = .pointer (some ⟨r, 0, none⟩)) (h : SNode w r k n en vs bs sc) :
  (results Tryd.f48 tmps).run Tryd.prog w = .ok (.agg #[.int .u8 k.toNat, .int .i64 n, .int .i64 en, .string vs, bs, .string sc]) w := by
 unfold results
 rw [results56]
 have hl := loadVar46 h
 simp [ht, asAddr, hl]
theorem sstep_out {w wc : World} {b : Nat} {p ar : ByteArray} {s : RS} {g : Nat} {bs v0 v1 : Value} {c0 c1 : List Value} (hgg : w.heap.size < g) (hlt : b < w.heap.size)
  (hr3 : SRd wc b p (SStep p ar s).2.2.2) (hG3 : w.grownBy wc (some b))
  (sc0 : SCells wc (fun j => w.heap.size < j ∧ j ≠ g) (SStep p ar s).2.1 c0) (so0 : Own6 wc (fun j => w.heap.size < j ∧ j ≠ g) v0 (SStep p ar s).2.1.len c0)
  (sc1 : SCells wc (fun j => w.heap.size < j ∧ j ≠ g) (SStep p ar s).2.2.1 c1) (so1 : Own6 wc (fun j => w.heap.size < j ∧ j ≠ g) v1 (SStep p ar s).2.2.1.len c1)
  (hnb : (SStep p ar s).1.nb ≤ 2) (sbs : Own wc (fun j => w.heap.size < j ∧ j ≠ g) 86 bs ([v0, v1].take (SStep p ar s).1.nb)) (he : (SStep p ar s).1.end_ = (SStep p ar s).2.2.2.at_)
  {W : World} (hW : setSix (wc.setCell ⟨g, 2, none⟩ (.int .i64 (SStep p ar s).2.2.2.at_)) w.heap.size (SStep p ar s).1.kind (SStep p ar s).1.at_ (SStep p ar s).2.2.2.at_ (SStep p ar s).1.vars bs (SStep p ar s).1.scope = W) :
  ∃ bs' v0 v1 c0 c1, Ending.returned (.agg #[.int .u8 (SStep p ar s).1.kind.toNat, .int .i64 (SStep p ar s).1.at_, .int .i64 (SStep p ar s).2.2.2.at_, .string (SStep p ar s).1.vars, bs, .string (SStep p ar s).1.scope]) =
    .returned (.agg #[.int .u8 (SStep p ar s).1.kind.toNat, .int .i64 (SStep p ar s).1.at_, .int .i64 (SStep p ar s).1.end_, .string (SStep p ar s).1.vars, bs', .string (SStep p ar s).1.scope]) ∧
   SRd W b p (SStep p ar s).2.2.2 ∧ w.grownBy W (some b) ∧
   SCells W (fun j => w.heap.size ≤ j) (SStep p ar s).2.1 c0 ∧ Own6 W (fun j => w.heap.size ≤ j) v0 (SStep p ar s).2.1.len c0 ∧
   SCells W (fun j => w.heap.size ≤ j) (SStep p ar s).2.2.1 c1 ∧ Own6 W (fun j => w.heap.size ≤ j) v1 (SStep p ar s).2.2.1.len c1 ∧
   (SStep p ar s).1.nb ≤ 2 ∧ Own W (fun j => w.heap.size ≤ j) 86 bs' ([v0, v1].take (SStep p ar s).1.nb) := by
 have hfar : ∀ j, j ≠ w.heap.size → j ≠ g → W.heap[j]? = wc.heap[j]? := fun j h1 h2 => by
  rw [← hW, setSix_far h1]
  exact Below.heap_setCell wc _ _ j (by simpa using h2)
 have hk : ∀ j, (w.heap.size < j ∧ j ≠ g) → j < wc.heap.size → W.heap[j]? = wc.heap[j]? := fun j hj _ => hfar j (by omega) hj.2
 refine ⟨bs, v0, v1, c0, c1, by rw [he], (hfar b (by omega) (by omega)).trans hr3, ?_, (sc0.keep hk).mono (fun j hj => by omega), (so0.keep hk).mono (fun j hj => by omega),
  (sc1.keep hk).mono (fun j hj => by omega), (so1.keep hk).mono (fun j hj => by omega), hnb, (sbs.keep hk).mono (fun j hj => by omega)⟩
 have h1 := grown_set wc g 2 (.int .i64 (SStep p ar s).2.2.2.at_)
 have h2 := hG3.andThen h1 (fun j hj => by cases hj; exact .inl (by omega))
 have h3 := h2.andThen (setSix_grown (r := w.heap.size) (k := (SStep p ar s).1.kind) (n := (SStep p ar s).1.at_) (en := (SStep p ar s).2.2.2.at_) (vs := (SStep p ar s).1.vars) (bs := bs) (sc := (SStep p ar s).1.scope) _) (fun j hj => by cases hj; exact .inl (Nat.le_refl _))
 rw [← hW]
 exact h3
theorem smid_of {w w2 : World} {b : Nat} {p ar : ByteArray} {s s' : RS} {g : Nat} {i : Inf} {b0 b1 : T} {bs v0 v1 : Value} {c0 c1 : List Value} (hq : SStep p ar s = (i, b0, b1, s'))
  (h1 : SRd w2 b p s') (hG : w.grownBy w2 (some b)) (hN : SNode w2 g i.kind i.at_ 0 i.vars bs i.scope) (hZ : SNode w2 w.heap.size 0 0 0 ByteArray.empty (.slice none 0 0) ByteArray.empty)
  (sc0 : SCells w2 (fun j => w.heap.size < j ∧ j ≠ g) b0 c0) (so0 : Own6 w2 (fun j => w.heap.size < j ∧ j ≠ g) v0 b0.len c0)
  (sc1 : SCells w2 (fun j => w.heap.size < j ∧ j ≠ g) b1 c1) (so1 : Own6 w2 (fun j => w.heap.size < j ∧ j ≠ g) v1 b1.len c1)
  (hnb : i.nb ≤ 2) (sbs : Own w2 (fun j => w.heap.size < j ∧ j ≠ g) 86 bs ([v0, v1].take i.nb)) (he : i.end_ = s'.at_) : SMid w b p ar s g w2 := by
 unfold SMid
 rw [hq]
 exact ⟨bs, v0, v1, c0, c1, h1, hG, hN, hZ, sc0, so0, sc1, so1, hnb, sbs, he⟩
theorem Own6.nil (w : World) (ok : Nat → Prop) : Own6 w ok (.slice none 0 0) 0 [] := ⟨World.ownsRow_nil w 0 82 6, fun k hk => by simp [Value.ownBlock] at hk⟩
theorem own_empty {w : World} {gb : Nat} {ok : Nat → Prop} (h : w.heap[gb]? = some (.cells #[] 86 (0, 0))) (hg : ok gb) : Own w ok 86 (.slice (some ⟨gb, 0, none⟩) 0 0) [] :=
 ⟨⟨rfl, .inr ⟨gb, 0, #[], rfl, Nat.zero_le _, h, Nat.le_refl _, by simp [maxLen], rfl, rfl⟩⟩, fun k hk => by simp [Value.ownBlock] at hk; rw [← hk]; exact hg⟩
theorem smid_leaf {w w2 : World} {b : Nat} {p ar : ByteArray} {s s' : RS} {g gb : Nat} {i : Inf} (hq : SStep p ar s = (i, .nil, .nil, s')) (hn : i.nb = 0)
  (h1 : SRd w2 b p s') (hG : w.grownBy w2 (some b)) (hN : SNode w2 g i.kind i.at_ 0 i.vars (.slice (some ⟨gb, 0, none⟩) 0 0) i.scope) (hZ : SNode w2 w.heap.size 0 0 0 ByteArray.empty (.slice none 0 0) ByteArray.empty)
  (hE : w2.heap[gb]? = some (.cells #[] 86 (0, 0))) (hg : w.heap.size < gb) (hgn : gb ≠ g) (he : i.end_ = s'.at_) : SMid w b p ar s g w2 :=
 smid_of (v0 := .slice none 0 0) (v1 := .slice none 0 0) (c0 := []) (c1 := []) hq h1 hG hN hZ rfl (Own6.nil _ _) rfl (Own6.nil _ _) (by omega) (by rw [hn]; exact own_empty hE ⟨hg, hgn⟩) he
theorem far_of {w w' : World} {j : Nat} {o : Obj} {r : Option Nat} (hg : w.grownBy w' r) (h : w.heap[j]? = some o) (hr : some j ≠ r) : w'.heap[j]? = some o := (hg.block j (Array.getElem?_eq_some_iff.1 h).1 hr).trans h
theorem far_set {w : World} {j g i : Nat} {o : Obj} (h : w.heap[j]? = some o) (v : Value) (hr : j ≠ g) : (w.setCell ⟨g, i, none⟩ v).heap[j]? = some o := (Below.heap_setCell w _ v j (by simpa using hr)).trans h
theorem info54 : (Tryd.prog.info? 86).map (fun i => (i.zero, i.size, i.bytes)) = some (some (.slice none 0 0), 1, 24) := by kernel_rfl
theorem byte_ne {c d : UInt8} {k : Int} (hk : (d.toNat : Int) = k) (h : ¬ c = d) : ((c.toNat : Int) == k) = false := by
 rw [beq_eq_false_iff_ne, ← hk]
 intro h'
 exact h ((byte_eq _ _).1 h')
theorem SRd.badOr {w : World} {b : Nat} {p : ByteArray} {n d : Nat} {x : Bool} (h : SRd w b p ⟨n, true, d⟩) : SRd w b p (badIf true ⟨n, x, d⟩) := by
 have : badIf true ⟨n, x, d⟩ = ⟨n, true, d⟩ := by simp [badIf]
 rw [this]
 exact h
theorem bytes_eqb (u v : ByteArray) : (u.toList == v.toList) = decide (u = v) := by
 by_cases h : u = v
 ·simp [h]
 ·have : u.toList ≠ v.toList := fun e => h (by
   rw [Lib.toList_data, Lib.toList_data] at e
   exact ByteArray.ext (Array.ext' e))
  simp [h, this]
theorem smid_two {w w5 : World} {b : Nat} {p ar : ByteArray} {s s2 : RS} {g gb : Nat} {u1 u2 : ByteArray} {k : UInt8} (hq : SStep p ar s = (⟨k, s.at_, s2.at_, u1 ++ u2, ar, 0⟩, .nil, .nil, badIf (decide (u2 = u1)) s2))
  (X : Bool) (hX : X = (s2.bad || decide (u2 = u1))) (hgg : w.heap.size < g) (hbg : b ≠ g) (hgn : gb ≠ g) (hgb : w.heap.size < gb) (hlt : b < w.heap.size)
  (hr : SRd w5 b p s2) (hG : w.grownBy w5 (some b)) (hN : SNode w5 g k s.at_ 0 u1 (.slice (some ⟨gb, 0, none⟩) 0 0) ar) (hZ : SNode w5 w.heap.size 0 0 0 ByteArray.empty (.slice none 0 0) ByteArray.empty)
  (hE : w5.heap[gb]? = some (.cells #[] 86 (0, 0))) : SMid w b p ar s g ((w5.setCell ⟨b, 2, none⟩ (.bool X)).setCell ⟨g, 3, none⟩ (.string (u1 ++ u2))) := by
 have hgb' : g ≠ b := fun h => hbg h.symm
 refine smid_leaf hq rfl ?_ ((World.grownBy.trans hG (grown_set _ _ _ _)).andThen (grown_set _ g 3 _) (fun j hj => by cases hj; exact .inl (by omega))) ((hN.far hgb' _).setVars _) ((hZ.far (by omega) _).far (by omega) _) (far_set (far_set hE _ (by omega)) _ hgn) hgb hgn rfl
 rw [hX]
 exact (hr.setBad _).far hbg _
theorem Own.grown {w w' : World} {ok : Nat → Prop} {e : TypeId} {v : Value} {xs : List Value} {r : Option Nat} (h : Own w ok e v xs) (hg : w.grownBy w' r) (hr : ∀ j, ok j → some j ≠ r) : Own w' ok e v xs :=
 h.keep (fun j hj hlt => hg.block j hlt (hr j hj))
structure Pushed (w : World) (b : Nat) (p : ByteArray) (s : RS) (g : Nat) (k : UInt8) (n : Nat) (vs sc : ByteArray) (gb m cap : Nat) (xs : List Value) (t0 : T) (v0 : Value) (c0 : List Value) (t1 : T) (v1 : Value) (c1 : List Value) (W : World) : Prop where
 rd : SRd W b p s
 grown : w.grownBy W (some b)
 node : SNode W g k n 0 vs (.slice (some ⟨gb, 0, none⟩) m cap) sc
 zero : SNode W w.heap.size 0 0 0 ByteArray.empty (.slice none 0 0) ByteArray.empty
 far : w.heap.size < gb ∧ gb ≠ g
 row : Own W (fun j => j = gb) 86 (.slice (some ⟨gb, 0, none⟩) m cap) xs
 s0 : SCells W (fun j => w.heap.size < j ∧ j ≠ g ∧ j ≠ gb) t0 c0
 o0 : Own6 W (fun j => w.heap.size < j ∧ j ≠ g ∧ j ≠ gb) v0 t0.len c0
 s1 : SCells W (fun j => w.heap.size < j ∧ j ≠ g ∧ j ≠ gb) t1 c1
 o1 : Own6 W (fun j => w.heap.size < j ∧ j ≠ g ∧ j ≠ gb) v1 t1.len c1
theorem push {w w3 w4 w5 : World} {b : Nat} {p : ByteArray} {s3 s4 : RS} {g : Nat} {k : UInt8} {n : Nat} {vs sc : ByteArray} {gb m cap : Nat} {xs : List Value} {t0 : T} {v0 : Value} {c0 : List Value} {t' : T} {v' : Value} {c' : List Value}
  (H : Pushed w b p s3 g k n vs sc gb m cap xs t0 v0 c0 t' v' c' w3) (hgg : w.heap.size < g) (hlt : b < w.heap.size)
  {t1 : T} {v1 : Value} {c1 : List Value} (hr4 : SRd w4 b p s4) (hg4 : w3.drew.grownBy w4 (some b)) (sc4 : SCells w4 (fun j => w3.drew.heap.size ≤ j) t1 c1) (so4 : Own6 w4 (fun j => w3.drew.heap.size ≤ j) v1 t1.len c1)
  {g5 cap5 m5 : Nat} (hown5 : w5.ownsRow 0 86 1 (.slice (some ⟨g5, 0, none⟩) m5 cap5) m5 (xs ++ [v1])) (hgrow5 : (w4.alloc (.cells #[v1] 86)).grownBy w5 (some gb)) (hat5 : some gb = some g5 ∨ g5 = w4.heap.size + 1) (hm : (xs ++ [v1]).length = m5) :
  Pushed w b p s4 g k n vs sc g5 m5 cap5 (xs ++ [v1]) t0 v0 c0 t1 v1 c1 (w5.setCell ⟨g, 4, none⟩ (.slice (some ⟨g5, 0, none⟩) m5 cap5)) := by
 obtain ⟨hr3, hG3, hN3, hZ3, ⟨hgb, hgn⟩, hO3, hs0, ho0, _, _⟩ := H
 have hs3 : w3.drew.heap.size = w3.heap.size := rfl
 have hz3 := hG3.size
 have hz4 := hg4.size
 have hN3lt := hN3.lt
 have ho3lt : gb < w3.heap.size := (hO3.row.lt gb rfl).2
 have hga : (w4.alloc (.cells #[v1] 86)).heap.size = w4.heap.size + 1 := by simp
 have h5 := World.grownBy.trans (World.grownBy_alloc w4 (.cells #[v1] 86) (some gb)) hgrow5
 have hz5 := h5.size
 have hat : g5 = gb ∨ g5 = w4.heap.size + 1 := by
  rcases hat5 with h | h
  ·injection h with h; exact .inl h.symm
  ·exact .inr h
 have hg5 : w.heap.size < g5 ∧ g5 ≠ g := by rcases hat with h | h <;> constructor <;> omega
 have hk : ∀ j, j ≠ b → j ≠ gb → j ≠ g → j < w3.heap.size → (w5.setCell ⟨g, 4, none⟩ (.slice (some ⟨g5, 0, none⟩) m5 cap5)).heap[j]? = w3.heap[j]? := fun j h1 h2 h3 hl => by
  rw [Below.heap_setCell _ _ _ j (by simpa using h3), h5.block j (by omega) (by simpa using h2), hg4.block j (by omega) (by simpa using h1)]
  rfl
 have hk4 : ∀ j, j ≠ gb → j ≠ g → j < w4.heap.size → (w5.setCell ⟨g, 4, none⟩ (.slice (some ⟨g5, 0, none⟩) m5 cap5)).heap[j]? = w4.heap[j]? := fun j h2 h3 hl => by
  rw [Below.heap_setCell _ _ _ j (by simpa using h3), h5.block j hl (by simpa using h2)]
 have hold : ∀ j, (w.heap.size < j ∧ j ≠ g ∧ j ≠ gb) ∧ j < w3.heap.size → (w.heap.size < j ∧ j ≠ g ∧ j ≠ g5) := fun j hj => ⟨hj.1.1, hj.1.2.1, by rcases hat with h | h <;> omega⟩
 have hnew : ∀ j, w3.drew.heap.size ≤ j ∧ j < w4.heap.size → (w.heap.size < j ∧ j ≠ g ∧ j ≠ g5) := fun j hj => ⟨by omega, by omega, by rcases hat with h | h <;> omega⟩
 refine ⟨(hk4 b (by omega) (by omega) (by have := hr4.lt; omega)).trans hr4, ?_, ?_, ?_, hg5, ?_, ?_, ?_, ?_, ?_⟩
 ·have a1 := World.grownBy.trans hG3 (World.grownBy.trans (grown_drewN w3 1 _) hg4)
  have a2 := a1.andThen h5 (fun j hj => by cases hj; exact .inl (by omega))
  exact a2.andThen (grown_set w5 g 4 _) (fun j hj => by cases hj; exact .inl (by omega))
 ·have hN4 : SNode w4 g k n 0 vs (.slice (some ⟨gb, 0, none⟩) m cap) sc := SNode.grown (w := w3.drew) (hN3.drewN 1) hg4 (by simp; omega)
  exact (hN4.grown h5 (by simp; omega)).setBodies _
 ·exact (hk _ (by omega) (by omega) (by omega) (by omega)).trans hZ3
 ·refine ⟨?_, fun k hk => by simp [Value.ownBlock] at hk; exact hk.symm⟩
  have : Own w5 (fun j => j = g5) 86 (.slice (some ⟨g5, 0, none⟩) m5 cap5) (xs ++ [v1]) := ⟨by rw [hm]; exact hown5, fun k hk => by simp [Value.ownBlock] at hk; exact hk.symm⟩
  exact (this.keep (w' := w5.setCell ⟨g, 4, none⟩ (.slice (some ⟨g5, 0, none⟩) m5 cap5)) (fun j hj _ => Below.heap_setCell _ _ _ j (by simp; omega))).row
 ·exact (hs0.bound.keep (fun j hj hl => hk j (by omega) hj.1.2.2 hj.1.2.1 hl)).mono hold
 ·exact (ho0.bound.keep (fun j hj hl => hk j (by omega) hj.1.2.2 hj.1.2.1 hl)).mono hold
 ·exact (sc4.bound.keep (fun j hj hl => hk4 j (by omega) (by omega) hl)).mono hnew
 ·exact (so4.bound.keep (fun j hj hl => hk4 j (by omega) (by omega) hl)).mono hnew
theorem pushed_start {w w3 : World} {b : Nat} {p : ByteArray} {s : RS} {g : Nat} {k : UInt8} {n : Nat} {vs sc : ByteArray} {gb : Nat} (hr : SRd w3 b p s) (hG : w.grownBy w3 (some b)) (hN : SNode w3 g k n 0 vs (.slice (some ⟨gb, 0, none⟩) 0 0) sc)
  (hZ : SNode w3 w.heap.size 0 0 0 ByteArray.empty (.slice none 0 0) ByteArray.empty) (hE : w3.heap[gb]? = some (.cells #[] 86 (0, 0))) (hg : w.heap.size < gb) (hgn : gb ≠ g) :
  Pushed w b p s g k n vs sc gb 0 0 [] .nil (.slice none 0 0) [] .nil (.slice none 0 0) [] w3 :=
 ⟨hr, hG, hN, hZ, ⟨hg, hgn⟩, own_empty hE rfl, rfl, Own6.nil _ _, rfl, Own6.nil _ _⟩
theorem smid_of1 {w W : World} {b : Nat} {p ar : ByteArray} {s s' : RS} {g gb m cap : Nat} {i : Inf} {t0 t1 : T} {v0 v1 : Value} {c0 c1 : List Value} (hq : SStep p ar s = (i, t1, .nil, s')) (hnb : i.nb = 1) (he : i.end_ = s'.at_)
  (P : Pushed w b p s' g i.kind i.at_ i.vars i.scope gb m cap [v1] t0 v0 c0 t1 v1 c1 W) : SMid w b p ar s g W :=
 smid_of (v1 := .slice none 0 0) (c1 := []) hq P.rd P.grown P.node P.zero (P.s1.mono (fun j hj => ⟨hj.1, hj.2.1⟩)) (P.o1.mono (fun j hj => ⟨hj.1, hj.2.1⟩)) rfl (Own6.nil _ _) (by omega) (by rw [hnb]; exact P.row.mono (fun j hj => by rw [hj]; exact P.far)) he
theorem smid_of2 {w W : World} {b : Nat} {p ar : ByteArray} {s s' : RS} {g gb m cap : Nat} {i : Inf} {t0 t1 : T} {v0 v1 : Value} {c0 c1 : List Value} (hq : SStep p ar s = (i, t0, t1, s')) (hnb : i.nb = 2) (he : i.end_ = s'.at_)
  (P : Pushed w b p s' g i.kind i.at_ i.vars i.scope gb m cap [v0, v1] t0 v0 c0 t1 v1 c1 W) : SMid w b p ar s g W :=
 smid_of hq P.rd P.grown P.node P.zero (P.s0.mono (fun j hj => ⟨hj.1, hj.2.1⟩)) (P.o0.mono (fun j hj => ⟨hj.1, hj.2.1⟩)) (P.s1.mono (fun j hj => ⟨hj.1, hj.2.1⟩)) (P.o1.mono (fun j hj => ⟨hj.1, hj.2.1⟩)) (by omega) (by rw [hnb]; exact P.row.mono (fun j hj => by rw [hj]; exact P.far)) he
theorem Pushed.turn {w W : World} {b : Nat} {p : ByteArray} {s : RS} {g : Nat} {k : UInt8} {n : Nat} {vs sc : ByteArray} {gb m cap : Nat} {xs : List Value} {t0 t1 : T} {v0 v1 : Value} {c0 c1 : List Value}
  (P : Pushed w b p s g k n vs sc gb m cap xs t0 v0 c0 t1 v1 c1 W) : Pushed w b p s g k n vs sc gb m cap xs t1 v1 c1 t1 v1 c1 W := ⟨P.rd, P.grown, P.node, P.zero, P.far, P.row, P.s1, P.o1, P.s1, P.o1⟩
theorem Pushed.on {w W W' : World} {b : Nat} {p : ByteArray} {s s' : RS} {g : Nat} {k : UInt8} {n : Nat} {vs sc : ByteArray} {gb m cap : Nat} {xs : List Value} {t0 t1 : T} {v0 v1 : Value} {c0 c1 : List Value}
  (P : Pushed w b p s g k n vs sc gb m cap xs t0 v0 c0 t1 v1 c1 W) (hlt : b < w.heap.size) (hgg : w.heap.size < g) (hr : SRd W' b p s') (hg : W.grownBy W' (some b)) : Pushed w b p s' g k n vs sc gb m cap xs t0 v0 c0 t1 v1 c1 W' := by
 have hk : ∀ j, j ≠ b → j < W.heap.size → W'.heap[j]? = W.heap[j]? := fun j h hl => hg.block j hl (by simpa using h)
 exact ⟨hr, World.grownBy.trans P.grown hg, P.node.grown hg (by simp; omega), P.zero.grown hg (by simp; omega), P.far, P.row.grown hg (fun j hj => by have := P.far; simp; omega),
  P.s0.keep (fun j hj hl => hk j (by omega) hl), P.o0.keep (fun j hj hl => hk j (by omega) hl), P.s1.keep (fun j hj hl => hk j (by omega) hl), P.o1.keep (fun j hj hl => hk j (by omega) hl)⟩
def SPush (w : World) (b : Nat) (p : ByteArray) (s : RS) (g : Nat) (k : UInt8) (n : Nat) (vs sc : ByteArray) (t : T) (W : World) : Prop :=
 ∃ gb cap A cp c, Pushed w b p s g k n vs sc gb 1 cap [.slice A t.len cp] t (.slice A t.len cp) c t (.slice A t.len cp) c W
theorem scope_into {w W1 : World} {b : Nat} {p ar : ByteArray} {s : RS} {g gb : Nat} {k : UInt8} (hr : SRd W1 b p ⟨s.at_ + 1, s.bad, s.dep⟩) (hG : w.grownBy W1 (some b)) (hN : SNode W1 g k s.at_ 0 ByteArray.empty (.slice (some ⟨gb, 0, none⟩) 0 0) ar)
  (hZ : SNode W1 w.heap.size 0 0 0 ByteArray.empty (.slice none 0 0) ByteArray.empty) (hE : W1.heap[gb]? = some (.cells #[] 86 (0, 0))) (hlt : b < w.heap.size) (hgb : w.heap.size < gb) (hbg : b ≠ g)
  (X : Bool) (hX : X = (s.bad || decide ((4 : Int) < (s.dep : Int) + 1))) :
  SRd ((W1.setCell ⟨b, 3, none⟩ (.int .i64 ((s.dep : Int) + 1))).setCell ⟨b, 2, none⟩ (.bool X)) b p (into (adv s)) ∧ w.grownBy ((W1.setCell ⟨b, 3, none⟩ (.int .i64 ((s.dep : Int) + 1))).setCell ⟨b, 2, none⟩ (.bool X)) (some b) ∧
  SNode ((W1.setCell ⟨b, 3, none⟩ (.int .i64 ((s.dep : Int) + 1))).setCell ⟨b, 2, none⟩ (.bool X)) g k s.at_ 0 ByteArray.empty (.slice (some ⟨gb, 0, none⟩) 0 0) ar ∧
  SNode ((W1.setCell ⟨b, 3, none⟩ (.int .i64 ((s.dep : Int) + 1))).setCell ⟨b, 2, none⟩ (.bool X)) w.heap.size 0 0 0 ByteArray.empty (.slice none 0 0) ByteArray.empty ∧
  ((W1.setCell ⟨b, 3, none⟩ (.int .i64 ((s.dep : Int) + 1))).setCell ⟨b, 2, none⟩ (.bool X)).heap[gb]? = some (.cells #[] 86 (0, 0)) := by
 have hd : decide ((4 : Int) < (s.dep : Int) + 1) = decide (4 < s.dep + 1) := by
  by_cases h : 4 < s.dep + 1
  ·rw [decide_eq_true h, decide_eq_true (by omega)]
  ·rw [decide_eq_false h, decide_eq_false (by omega)]
 have hgb' : g ≠ b := fun h => hbg h.symm
 refine ⟨?_, World.grownBy.trans hG (World.grownBy.trans (grown_set _ _ _ _) (grown_set _ _ _ _)), (hN.far hgb' _).far hgb' _, (hZ.far (by omega) _).far (by omega) _, far_set (far_set hE _ (by omega)) _ (by omega)⟩
 rw [hX, hd]
 exact (hr.setDep (s.dep + 1)).setBad _
theorem scope_out {W : World} {b : Nat} {p : ByteArray} {s : RS} {d : Nat} (hr : SRd W b p s) (hd : s.dep = d + 1) : SRd (W.setCell ⟨b, 3, none⟩ (.int .i64 (d : Int))) b p (out s) := by
 have : out s = ⟨s.at_, s.bad, d⟩ := by unfold out; rw [hd]; rfl
 rw [this]
 exact hr.setDep d
end Go.Proofs.YtojhdfdhfajjjaaDoor
