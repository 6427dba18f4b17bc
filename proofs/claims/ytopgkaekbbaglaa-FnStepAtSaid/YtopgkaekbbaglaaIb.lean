/- Contracts of the program's reader: a letter. -/
import Derived.Test.YtopgkaekbbaglaaIa
namespace Go.Proofs.Ytopgkaekbbaglaa
open Go.RowKit Pl

set_option maxHeartbeats 400000 in
theorem letter_out (w : World) (b n : Nat) (p : ByteArray) (hr : Rdr w b p n) (hn : p.size ≤ n) :
    Calls Try.prog 68 #[.pointer (some ⟨b, 0, none⟩)] w fun e w' => e = .returned (.string ⟨#[]⟩) ∧ ∃ k, w' = w.drewN k := by
  have h0 := hr.c0
  have h1 := hr.c1
  have h2 : decide (p.size ≤ n) = true := by simp; omega
  go_enter Try.func68, Try.ntmps68
  go_wp2_with fail
  go_quiet (fail)
  go_wp2_with fail
  go_ret
  exact ⟨rfl, _, rfl⟩

set_option maxHeartbeats 400000 in
theorem letter_low (w : World) (b n : Nat) (p : ByteArray) (hr : Rdr w b p n) (hn : n < p.size) (hc : bAt p n < 97) :
    Calls Try.prog 68 #[.pointer (some ⟨b, 0, none⟩)] w fun e w' => e = .returned (.string ⟨#[]⟩) ∧ ∃ k, w' = w.drewN k := by
  have h0 := hr.c0
  have h1 := hr.c1
  have h2 : decide (p.size ≤ n) = false := by simp; omega
  have h3 : decide (((p[n]'hn).toNat : Int) < 97) = true := by rw [bAt_get hn]; have := UInt8.lt_iff_toNat_lt.1 hc; simp at this ⊢; omega
  clear hc
  go_enter Try.func68, Try.ntmps68
  go_wp2_with fail
  go_quiet (fail)
  go_wp2_with fail
  go_ret
  exact ⟨rfl, _, rfl⟩

set_option maxHeartbeats 400000 in
theorem letter_high (w : World) (b n : Nat) (p : ByteArray) (hr : Rdr w b p n) (hn : n < p.size) (hc : 102 < bAt p n) :
    Calls Try.prog 68 #[.pointer (some ⟨b, 0, none⟩)] w fun e w' => e = .returned (.string ⟨#[]⟩) ∧ ∃ k, w' = w.drewN k := by
  have h0 := hr.c0
  have h1 := hr.c1
  have h2 : decide (p.size ≤ n) = false := by simp; omega
  have h5 : 102 < (bAt p n).toNat := by have := UInt8.lt_iff_toNat_lt.1 hc; simpa using this
  have h3 : decide (((p[n]'hn).toNat : Int) < 97) = false := by rw [bAt_get hn]; simp; omega
  have h4 : decide (102 < ((p[n]'hn).toNat : Int)) = true := by rw [bAt_get hn]; simp; omega
  clear hc h5
  go_enter Try.func68, Try.ntmps68
  go_wp2_with fail
  go_quiet (fail)
  go_wp2_with fail
  go_ret
  exact ⟨rfl, _, rfl⟩

set_option maxHeartbeats 400000 in
theorem letter_yes (w : World) (b n : Nat) (p : ByteArray) (hr : Rdr w b p n) (hs : p.size ≤ 1048576) (hn : n < p.size) (hc : 97 ≤ bAt p n) (hd : bAt p n ≤ 102) :
    Calls Try.prog 68 #[.pointer (some ⟨b, 0, none⟩)] w fun e w' => e = .returned (.string (sub1 p n)) ∧ Rdr w' b p (n + 1) ∧ w.grownBy w' (some b) := by
  have h0 := hr.c0
  have h1 := hr.c1
  have hf := hr.fz 1
  have h2 : decide (p.size ≤ n) = false := by simp; omega
  have h5 : 97 ≤ (bAt p n).toNat := by have := UInt8.le_iff_toNat_le.1 hc; simpa using this
  have h6 : (bAt p n).toNat ≤ 102 := by have := UInt8.le_iff_toNat_le.1 hd; simpa using this
  have h3 : decide (((p[n]'hn).toNat : Int) < 97) = false := by rw [bAt_get hn]; simp; omega
  have h4 : decide (102 < ((p[n]'hn).toNat : Int)) = false := by rw [bAt_get hn]; simp; omega
  clear hc hd h5 h6
  go_enter Try.func68, Try.ntmps68
  go_wp2_with fail
  go_quiet (fail)
  go_wp2_with fail
  generalize hW : (w.drewN nq).setCell ⟨b, 1, none⟩ (Value.int .i64 ((n : Int) + 1)) = W1
  have hr1 : Rdr W1 b p (n + 1) := by rw [← hW]; exact (hr.drewN nq).set
  have g0 := hr1.c0
  have g1 := hr1.c1
  have HW := Lib.hid hW
  clear hW h0 h1 hf h2 h3 h4
  go_quiet (fail)
  go_wp2_with fail
  go_ret
  refine ⟨?_, hr1.drewN _, World.grownBy.trans ?_ (grown_drewN W1 _ _)⟩
  · simp [sub1]
  · rw [← HW.out]
    exact World.grownBy.trans (grown_drewN w _ _) (grown_set _ _ _ _)
/-- letter: past a variable, and it; the empty text where there is none -/
theorem letter_any (w : World) (b n : Nat) (p : ByteArray) (hr : Rdr w b p n) (hs : p.size ≤ 1048576) :
    Calls Try.prog 68 #[.pointer (some ⟨b, 0, none⟩)] w fun e w' => e = .returned (.string (if isLet p n = true then sub1 p n else ⟨#[]⟩)) ∧ Rdr w' b p (if isLet p n = true then n + 1 else n) ∧ w.grownBy w' (some b) := by
  by_cases hn : n < p.size
  · by_cases h1 : bAt p n < 97
    · have e : isLet p n = false := by
        have : ¬ (97 ≤ bAt p n) := UInt8.not_le.2 h1
        simp [isLet, this]
      refine (letter_low w b n p hr hn h1).mono ?_
      rintro e' w' ⟨rfl, k, rfl⟩
      rw [e, if_neg (by decide), if_neg (by decide)]
      exact ⟨rfl, hr.drewN k, grown_drewN w k _⟩
    · by_cases h2 : 102 < bAt p n
      · have e : isLet p n = false := by
          have : ¬ (bAt p n ≤ 102) := UInt8.not_le.2 h2
          simp [isLet, this]
        refine (letter_high w b n p hr hn h2).mono ?_
        rintro e' w' ⟨rfl, k, rfl⟩
        rw [e, if_neg (by decide), if_neg (by decide)]
        exact ⟨rfl, hr.drewN k, grown_drewN w k _⟩
      · have h1' : 97 ≤ bAt p n := UInt8.not_lt.1 h1
        have h2' : bAt p n ≤ 102 := UInt8.not_lt.1 h2
        have e : isLet p n = true := by simp [isLet, hn, h1', h2']
        refine (letter_yes w b n p hr hs hn h1' h2').mono ?_
        rintro e' w' ⟨rfl, hr', hg⟩
        rw [e, if_pos rfl, if_pos rfl]
        exact ⟨rfl, hr', hg⟩
  · have e : isLet p n = false := by simp [isLet, hn]
    refine (letter_out w b n p hr (by omega)).mono ?_
    rintro e' w' ⟨rfl, k, rfl⟩
    rw [e, if_neg (by decide), if_neg (by decide)]
    exact ⟨rfl, hr.drewN k, grown_drewN w k _⟩
end Go.Proofs.Ytopgkaekbbaglaa
