/- Contracts of the reference's reader: a byte, a variable; the reference's search for a byte. -/
import Derived.Test.YtopgkaekbbaglaaIh
namespace Go.Proofs.Ytopgkaekbbaglaa
open Go.RowKit Pl

/-- the reference's reader lies at this block -/
def SRd (w : World) (b : Nat) (p : ByteArray) (s : RS) : Prop := w.heap[b]? = some (.cells #[.string p, .int .i64 s.at_, .bool s.bad, .int .i64 s.dep] 72 (0, 0))
section
variable {w w' : World} {b : Nat} {p : ByteArray} {s : RS}
theorem SRd.c0 (h : SRd w b p s) : w.cell? ⟨b, 0, none⟩ = some (.string p) := by simp [World.cell?, show w.heap[b]? = _ from h]
theorem SRd.c1 (h : SRd w b p s) : w.cell? ⟨b, 1, none⟩ = some (.int .i64 s.at_) := by simp [World.cell?, show w.heap[b]? = _ from h]
theorem SRd.c2 (h : SRd w b p s) : w.cell? ⟨b, 2, none⟩ = some (.bool s.bad) := by simp [World.cell?, show w.heap[b]? = _ from h]
theorem SRd.c3 (h : SRd w b p s) : w.cell? ⟨b, 3, none⟩ = some (.int .i64 s.dep) := by simp [World.cell?, show w.heap[b]? = _ from h]
theorem SRd.fz (h : SRd w b p s) (i : Nat) : w.frozen? ⟨b, i, none⟩ = false := by simp [World.frozen?, show w.heap[b]? = _ from h]
theorem SRd.lt (h : SRd w b p s) : b < w.heap.size := (Array.getElem?_eq_some_iff.1 h).1
theorem SRd.grown (h : SRd w b p s) {r : Option Nat} (hg : w.grownBy w' r) (hr : some b ≠ r) : SRd w' b p s := (hg.block b h.lt hr).trans h
theorem SRd.far (h : SRd w b p s) {g i : Nat} (hb : b ≠ g) (v : Value) : SRd (w.setCell ⟨g, i, none⟩ v) b p s := (Below.heap_setCell w _ v b hb).trans h
theorem SRd.drewN (h : SRd w b p s) (k : Nat) : SRd (w.drewN k) b p s := h
theorem SRd.setAt (h : SRd w b p s) (n : Nat) : SRd (w.setCell ⟨b, 1, none⟩ (.int .i64 n)) b p ⟨n, s.bad, s.dep⟩ := by
  have h' : w.heap[b]? = _ := h
  simp [SRd, World.setCell, Array.getElem?_modify, h']
theorem SRd.setBad (h : SRd w b p s) (x : Bool) : SRd (w.setCell ⟨b, 2, none⟩ (.bool x)) b p ⟨s.at_, x, s.dep⟩ := by
  have h' : w.heap[b]? = _ := h
  simp [SRd, World.setCell, Array.getElem?_modify, h']
theorem SRd.setDep (h : SRd w b p s) (n : Nat) : SRd (w.setCell ⟨b, 3, none⟩ (.int .i64 n)) b p ⟨s.at_, s.bad, n⟩ := by
  have h' : w.heap[b]? = _ := h
  simp [SRd, World.setCell, Array.getElem?_modify, h']
end

/-! ### l13Find -/
def shiftIdx (i : Nat) (r : Int) : Int := if r = -1 then -1 else i + r
theorem shift_hit {l : List UInt8} {c : UInt8} {i : Nat} (hi : i < l.length) (hc : l[i] = c) : shiftIdx i (Lib.indexByte (l.drop i) c) = i := by
  rw [List.drop_eq_getElem_cons hi, Lib.indexByte, hc]
  simp [shiftIdx]
theorem shift_miss {l : List UInt8} {c : UInt8} {i : Nat} (hi : i < l.length) (hc : l[i] ≠ c) : shiftIdx i (Lib.indexByte (l.drop i) c) = shiftIdx (i + 1) (Lib.indexByte (l.drop (i + 1)) c) := by
  rw [List.drop_eq_getElem_cons hi, Lib.indexByte]
  have hb : (l[i] == c) = false := by simpa using hc
  have hg := Lib.indexByte_ge (l.drop (i + 1)) c
  rw [hb]
  simp only [Bool.false_eq_true, if_false]
  by_cases hm : Lib.indexByte (l.drop (i + 1)) c = -1
  · simp [shiftIdx, hm]
  · have h1 : (Lib.indexByte (l.drop (i + 1)) c == -1) = false := by simpa using hm
    rw [h1]
    simp only [Bool.false_eq_true, if_false, shiftIdx, if_neg hm]
    rw [if_neg (by omega)]
    omega
theorem shift_end {l : List UInt8} {c : UInt8} {i : Nat} (hi : l.length ≤ i) : shiftIdx i (Lib.indexByte (l.drop i) c) = -1 := by
  rw [List.drop_of_length_le hi]
  rfl
theorem shift_zero (l : List UInt8) (c : UInt8) : shiftIdx 0 (Lib.indexByte (l.drop 0) c) = Lib.indexByte l c := by
  rw [List.drop_zero]
  unfold shiftIdx
  split
  · rename_i h; exact h.symm
  · simp

theorem ret_int {k : IntKind} {a b : Int} (h : a = b) : Ending.returned (.int k a) = .returned (.int k b) := by rw [h]
set_option maxHeartbeats 400000 in
theorem find_any (s : ByteArray) (c : UInt8) (ci : Int) (hci : (c.toNat : Int) = ci) (w : World) (hs : s.size ≤ 9223372036854775807) :
    Calls Try.prog 44 #[.string s, .int .u8 ci] w fun e w' => e = .returned (.int .i64 (Lib.indexByte s.data.toList c)) ∧ w' = w := by
  have HC := Lib.hid hci
  clear hci
  go_enter Try.func44, Try.ntmps44
  go_wp2_with fail
  go_loop [5] (fun i => ∃ k : Nat, k ≤ s.size ∧ i = .int .i64 k ∧ Hid (shiftIdx k (Lib.indexByte (s.data.toList.drop k) c) = Lib.indexByte s.data.toList c)) (fun i => s.size - (intOf i).toNat)
  case atStart => exact ⟨0, Nat.zero_le _, rfl, shift_zero _ _⟩
  case round =>
    obtain ⟨k, hk, rfl, H⟩ := hrel
    by_cases hlt : k < s.size
    · have hl : k < s.data.toList.length := by rw [Array.length_toList]; exact hlt
      have hget : s.data.toList[k] = s[k]'hlt := rfl
      by_cases hc : s[k]'hlt = c
      · have hb : (((s[k]'hlt).toNat : Int) == ci) = true := by rw [hc, HC.out]; simp
        have HX := Lib.hid hc
        clear hc
        go_wp2_with fail
        go_ret
        exact ⟨ret_int ((shift_hit hl (hget.trans HX.out)).symm.trans H.out), rfl⟩
      · have hb : (((s[k]'hlt).toNat : Int) == ci) = false := by
          rw [beq_eq_false_iff_ne, ← HC.out]
          intro h
          exact hc ((byte_eq _ _).1 h)
        have HX := Lib.hid hc
        clear hc
        go_wp2_with fail
        go_round
        case rel => exact ⟨k + 1, by omega, by go_num, by rw [← shift_miss hl (fun h => HX.out (hget.symm.trans h))]; exact H⟩
        case measure => simp [intOf]; omega
    · have hge : s.data.toList.length ≤ k := by rw [Array.length_toList]; show s.size ≤ k; omega
      go_wp2_with fail
      go_ret
      exact ⟨ret_int ((shift_end hge).symm.trans H.out), rfl⟩

set_option maxHeartbeats 400000 in
theorem l1In_yes (n lo hi : Int) (w : World) (h1 : lo ≤ n) (h2 : n ≤ hi) : Calls Try.prog 75 #[.int .i64 n, .int .i64 lo, .int .i64 hi] w fun e w' => e = .returned (.bool true) ∧ w' = w := by
  have a : decide (lo ≤ n) = true := by simpa using h1
  have b : decide (n ≤ hi) = true := by simpa using h2
  go_enter Try.func75, Try.ntmps75
  go_wp2
  go_ret
  exact ⟨rfl, rfl⟩
set_option maxHeartbeats 400000 in
theorem l1In_no (n lo hi : Int) (w : World) (h : n < lo ∨ hi < n) : Calls Try.prog 75 #[.int .i64 n, .int .i64 lo, .int .i64 hi] w fun e w' => e = .returned (.bool false) ∧ w' = w := by
  rcases h with h | h
  · have a : decide (lo ≤ n) = false := by simp; omega
    go_enter Try.func75, Try.ntmps75
    go_wp2
    go_ret
    exact ⟨rfl, rfl⟩
  · by_cases h1 : lo ≤ n
    · have a : decide (lo ≤ n) = true := by simpa using h1
      have b : decide (n ≤ hi) = false := by simp; omega
      go_enter Try.func75, Try.ntmps75
      go_wp2
      go_ret
      exact ⟨rfl, rfl⟩
    · have a : decide (lo ≤ n) = false := by simp; omega
      go_enter Try.func75, Try.ntmps75
      go_wp2
      go_ret
      exact ⟨rfl, rfl⟩

/-! ### is -/
set_option maxHeartbeats 400000 in
theorem is_any (w : World) (b : Nat) (p : ByteArray) (s : RS) (c : UInt8) (ci : Int) (hci : (c.toNat : Int) = ci) (hr : SRd w b p s) (hs : p.size ≤ 1048576) :
    Calls Try.prog 65 #[.pointer (some ⟨b, 0, none⟩), .int .u8 ci] w fun e w' => e = .returned (.tuple #[]) ∧ SRd w' b p (sis p c s) ∧ w.grownBy w' (some b) := by
  have h0 := hr.c0
  have h1 := hr.c1
  have hf1 := hr.fz 1
  have h2 := hr.c2
  have hf2 := hr.fz 2
  by_cases hn : s.at_ < p.size
  · have g1 : decide (s.at_ < p.size) = true := by simpa using hn
    by_cases hc : bAt p s.at_ = c
    · have g2 : (((p[s.at_]'hn).toNat : Int) == ci) = true := by rw [bAt_get hn, hc, hci]; simp
      have HE := Lib.hid (show sis p c s = ⟨s.at_ + 1, s.bad, s.dep⟩ by unfold sis; rw [if_pos (by simp [isAt, hn, hc])]; rfl)
      have HC := Lib.hid hc
      clear hc hci
      go_enter Try.func65, Try.ntmps65
      go_wp2_with fail
      go_quiet (fail)
      go_wp2_with fail
      go_end0
      exact ⟨rfl, by rw [HE.out]; exact (hr.drewN _).setAt (s.at_ + 1), World.grownBy.trans (grown_drewN w _ _) (grown_set _ _ _ _)⟩
    · have g2 : (((p[s.at_]'hn).toNat : Int) == ci) = false := by
        rw [bAt_get hn, beq_eq_false_iff_ne, ← hci]
        intro h
        exact hc ((byte_eq _ _).1 h)
      have HE := Lib.hid (show sis p c s = ⟨s.at_, true, s.dep⟩ by unfold sis; rw [if_neg (by simp [isAt, hc])]; simp [badIf])
      have HC := Lib.hid hc
      clear hc hci
      go_enter Try.func65, Try.ntmps65
      go_wp2_with fail
      go_quiet (fail)
      go_wp2_with fail
      go_end0
      exact ⟨rfl, by rw [HE.out]; exact (hr.drewN _).setBad true, World.grownBy.trans (grown_drewN w _ _) (grown_set _ _ _ _)⟩
  · have g1 : decide (s.at_ < p.size) = false := by simpa using hn
    have HE := Lib.hid (show sis p c s = ⟨s.at_, true, s.dep⟩ by unfold sis; rw [if_neg (by simp [isAt, hn])]; simp [badIf])
    clear hci
    go_enter Try.func65, Try.ntmps65
    go_wp2_with fail
    go_quiet (fail)
    go_wp2_with fail
    go_end0
    exact ⟨rfl, by rw [HE.out]; exact (hr.drewN _).setBad true, World.grownBy.trans (grown_drewN w _ _) (grown_set _ _ _ _)⟩
end Go.Proofs.Ytopgkaekbbaglaa
