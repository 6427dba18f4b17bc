/- What a step reads, case by case; no Go, no memory. -/
import Derived.Test.YtopgkaekbbaglaaPlain
namespace Go.Proofs.Ytopgkaekbbaglaa.Pl

/-- how many bodies a step has in brackets -/
def inBrackets (c : UInt8) : Nat := if c = 63 then 2 else if c = 42 then 1 else 0
theorem not63 {c : UInt8} (h : inBrackets c = 0) : c ≠ 63 := by rintro rfl; simp [inBrackets] at h
theorem not42 {c : UInt8} (h : inBrackets c = 0) : c ≠ 42 := by rintro rfl; simp [inBrackets] at h
theorem is63 {c : UInt8} (h : inBrackets c = 2) : c = 63 := by
  unfold inBrackets at h
  split at h
  · assumption
  · split at h <;> omega
theorem is42 {c : UInt8} (h : inBrackets c = 1) : c = 42 := by
  unfold inBrackets at h
  split at h
  · omega
  · split at h
    · assumption
    · omega
section
variable {p ar : ByteArray} {n sc : Nat}
theorem read_one : readVars p ar 1 (n + 1) ByteArray.empty = if isLet p (n + 1) = true ∧ has ar (bAt p (n + 1)) = true then some (sub1 p (n + 1), n + 2) else none := by
  unfold readVars
  simp only [has_empty, Bool.not_false, Bool.and_true, Bool.and_eq_true]
  by_cases h : isLet p (n + 1) = true ∧ has ar (bAt p (n + 1)) = true
  · rw [if_pos h, if_pos h]
    simp [readVars]
  · rw [if_neg h, if_neg h]
theorem plain_some (hn : n < p.size) {vs : ByteArray} {m : Nat} (h0 : inBrackets (bAt p n) = 0) (h1 : bAt p n ≠ 123) (hv : readVars p ar (many (bAt p n)) (n + 1) ByteArray.empty = some (vs, m)) :
    IStep p n ar sc = some (⟨bAt p n, n, m, vs, ar, 0⟩, .nil, .nil, m) := by
  rw [IStep_eq _ _ _ _ hn, hv]
  simp only []
  rw [if_neg (not63 h0), if_neg (not42 h0), if_neg h1]
theorem vars_none (hn : n < p.size) (hv : readVars p ar (many (bAt p n)) (n + 1) ByteArray.empty = none) : IStep p n ar sc = none := by
  rw [IStep_eq _ _ _ _ hn, hv]
theorem read_two : readVars p ar 2 (n + 1) ByteArray.empty =
    if isLet p (n + 1) = true ∧ has ar (bAt p (n + 1)) = true then (if isLet p (n + 2) = true ∧ has ar (bAt p (n + 2)) = true ∧ has (sub1 p (n + 1)) (bAt p (n + 2)) = false then some (sub1 p (n + 1) ++ sub1 p (n + 2), n + 3) else none) else none := by
  show readVars p ar (1 + 1) (n + 1) ByteArray.empty = _
  unfold readVars
  simp only [has_empty, Bool.not_false, Bool.and_true, Bool.and_eq_true]
  by_cases h : isLet p (n + 1) = true ∧ has ar (bAt p (n + 1)) = true
  · rw [if_pos h, if_pos h, ba_empty_append]
    show readVars p ar (0 + 1) (n + 2) (sub1 p (n + 1)) = _
    unfold readVars
    simp only [Bool.and_eq_true, Bool.not_eq_true', and_assoc]
    by_cases h' : isLet p (n + 2) = true ∧ has ar (bAt p (n + 2)) = true ∧ has (sub1 p (n + 1)) (bAt p (n + 2)) = false
    · rw [if_pos h', if_pos h']
      rfl
    · rw [if_neg h', if_neg h']
  · rw [if_neg h, if_neg h]
theorem loop_eq (hn : n < p.size) (hc : bAt p n = 42) : IStep p n ar sc = match IBody p (n + 1) ar sc with
    | none => none
    | some (b0, m) => some (⟨42, n, m, ByteArray.empty, ar, 1⟩, b0, .nil, m) := by
  rw [IStep_eq _ _ _ _ hn, hc]
  simp (config := { decide := true }) only [many, readVars, if_false, if_true]
  rfl
theorem branch_eq (hn : n < p.size) (hc : bAt p n = 63) : IStep p n ar sc = match IBody p (n + 1) ar sc with
    | none => none
    | some (b0, m) => match IBody p m ar sc with
      | none => none
      | some (b1, k) => some (⟨63, n, k, ByteArray.empty, ar, 2⟩, b0, b1, k) := by
  rw [IStep_eq _ _ _ _ hn, hc]
  simp (config := { decide := true }) only [many, readVars, if_false, if_true]
  rfl
theorem scope_eq (hn : n < p.size) (hc : bAt p n = 123) : IStep p n ar sc = match declVars p ar (p.size - (n + 1)) (n + 1) ByteArray.empty with
    | none => none
    | some (vs, m) => if vs.size = 0 ∨ sc = 4 ∨ isAt p m 58 = false then none
      else match ISteps p (m + 1) (ar ++ vs) (sc + 1) with
        | none => none
        | some (b0, k) => if isAt p k 125 then some (⟨123, n, k + 1, vs, ar, 1⟩, b0, .nil, k + 1) else none := by
  rw [IStep_eq _ _ _ _ hn, hc]
  simp (config := { decide := true }) only [many, readVars, if_false, if_true]
  rfl
end
end Go.Proofs.Ytopgkaekbbaglaa.Pl
