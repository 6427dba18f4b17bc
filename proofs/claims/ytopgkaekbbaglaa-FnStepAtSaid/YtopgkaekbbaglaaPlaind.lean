/- Sizes and depths of the trees that the readers make; the steps of a program in the order in which they begin. No Go, no memory. -/
import Derived.Test.YtopgkaekbbaglaaPlainc
namespace Go.Proofs.Ytopgkaekbbaglaa.Pl

def T.count : T → Nat
  | .nil => 0
  | .cons _ b0 b1 r => 1 + b0.count + b1.count + r.count
theorem count_append (u : T) : ∀ t : T, (t.append u).count = t.count + u.count
  | .nil => by simp [T.append, T.count]
  | .cons i b0 b1 r => by simp only [T.append, T.count]; rw [count_append u r]; omega
/-- how many scopes lie within each other in a list of steps -/
def T.dep : T → Nat
  | .nil => 0
  | .cons i b0 b1 r => max (max (if 0 < i.nb then b0.dep else 0) (if 1 < i.nb then b1.dep else 0) + (if i.kind = 123 then 1 else 0)) r.dep
/-- the same of one step -/
def ndep (i : Inf) (b0 b1 : T) : Nat := max (if 0 < i.nb then b0.dep else 0) (if 1 < i.nb then b1.dep else 0) + (if i.kind = 123 then 1 else 0)
theorem dep_cons (i : Inf) (b0 b1 r : T) : (T.cons i b0 b1 r).dep = max (ndep i b0 b1) r.dep := rfl
theorem dep_count : ∀ t : T, t.dep ≤ t.count
  | .nil => Nat.le_refl _
  | .cons i b0 b1 r => by
    have h0 := dep_count b0
    have h1 := dep_count b1
    have h2 := dep_count r
    simp only [T.dep, T.count]
    have a : (if 0 < i.nb then b0.dep else 0) ≤ b0.dep := by split <;> omega
    have b : (if 1 < i.nb then b1.dep else 0) ≤ b1.dep := by split <;> omega
    have c : (if i.kind = 123 then 1 else 0) ≤ 1 := by split <;> omega
    omega
theorem ndep_count (i : Inf) (b0 b1 : T) : ndep i b0 b1 ≤ (T.cons i b0 b1 .nil).count := by
  have := dep_count (.cons i b0 b1 .nil)
  rw [dep_cons] at this
  omega
/-- all steps of a list, in the order in which they begin -/
def T.flat : T → List Inf
  | .nil => []
  | .cons i b0 b1 r => i :: ((if 0 < i.nb then b0.flat else []) ++ (if 1 < i.nb then b1.flat else []) ++ r.flat)
theorem flat_count : ∀ t : T, t.flat.length ≤ t.count
  | .nil => Nat.le_refl _
  | .cons i b0 b1 r => by
    have h0 := flat_count b0
    have h1 := flat_count b1
    have h2 := flat_count r
    simp only [T.flat, T.count, List.length_cons, List.length_append]
    have a : (if 0 < i.nb then b0.flat else []).length ≤ b0.count := by split; exact h0; exact Nat.zero_le _
    have b : (if 1 < i.nb then b1.flat else []).length ≤ b1.count := by split; exact h1; exact Nat.zero_le _
    omega

theorem counts (p : ByteArray) : ∀ k : Nat,
    (∀ n ar sc i b0 b1 n1, istep p k n ar sc = some (i, b0, b1, n1) → 1 + b0.count + b1.count + n ≤ n1) ∧
    (∀ n ar sc t n1, isteps p k n ar sc = some (t, n1) → t.count + n ≤ n1) ∧
    (∀ n ar sc t n1, ibody p k n ar sc = some (t, n1) → t.count + n < n1) := by
  intro k
  induction k with
  | zero => exact ⟨fun _ _ _ _ _ _ _ h => by simp [istep] at h, fun _ _ _ _ _ h => by simp [isteps] at h, fun _ _ _ _ _ h => by simp [ibody] at h⟩
  | succ k ih =>
    obtain ⟨h1, h2, h3⟩ := ih
    refine ⟨?_, ?_, ?_⟩
    · intro n ar sc i b0 b1 n1 h
      unfold istep at h
      split at h
      · cases h
      · rename_i vs m hv
        have := readVars_gt hv
        split at h
        · split at h
          · cases h
          · rename_i c0 m2 hb
            have := h3 _ _ _ _ _ hb
            split at h
            · cases h
            · rename_i c1 m3 hb'
              have := h3 _ _ _ _ _ hb'
              simp at h; obtain ⟨_, rfl, rfl, rfl⟩ := h; omega
        · split at h
          · split at h
            · cases h
            · rename_i c0 m2 hb
              have := h3 _ _ _ _ _ hb
              simp at h; obtain ⟨_, rfl, rfl, rfl⟩ := h; simp only [T.count]; omega
          · split at h
            · split at h
              · cases h
              · rename_i vs' m2 hd
                have := declVars_gt hd
                split at h
                · cases h
                · split at h
                  · cases h
                  · rename_i c0 m3 hs
                    have := h2 _ _ _ _ _ hs
                    split at h
                    · simp at h; obtain ⟨_, rfl, rfl, rfl⟩ := h; simp only [T.count]; omega
                    · cases h
            · simp at h; obtain ⟨_, rfl, rfl, rfl⟩ := h; simp only [T.count]; omega
    · intro n ar sc t n1 h
      unfold isteps at h
      split at h
      · split at h
        · cases h
        · rename_i i b0 b1 m hs
          have := h1 _ _ _ _ _ _ _ hs
          split at h
          · cases h
          · rename_i r m2 hr
            have := h2 _ _ _ _ _ hr
            simp at h; obtain ⟨rfl, rfl⟩ := h; simp only [T.count]; omega
      · simp at h; obtain ⟨rfl, rfl⟩ := h; simp only [T.count]; omega
    · intro n ar sc t n1 h
      unfold ibody at h
      split at h
      · split at h
        · cases h
        · rename_i b m hs
          have := h2 _ _ _ _ _ hs
          split at h
          · simp at h; obtain ⟨rfl, rfl⟩ := h; omega
          · cases h
      · cases h
theorem parse_count {p : ByteArray} {i : Inf} {b0 b1 : T} (h : IParse p = some (i, b0, b1)) : (T.cons i b0 b1 .nil).count ≤ 80 := by
  unfold IParse at h
  split at h
  · cases h
  · rename_i hp
    split at h
    · cases h
    · rename_i j c0 c1 m hs
      split at h
      · rename_i hm
        simp at h
        obtain ⟨rfl, rfl, rfl⟩ := h
        have := (counts p _).1 _ _ _ _ _ _ _ hs
        simp only [T.count]
        omega
      · cases h
end Go.Proofs.Ytopgkaekbbaglaa.Pl
