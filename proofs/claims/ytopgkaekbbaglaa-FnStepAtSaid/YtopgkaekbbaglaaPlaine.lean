/- What the steps of a program look like: where they end, how many variables they have; all steps and the first that begins at a byte. No Go, no memory. -/
import Derived.Test.YtopgkaekbbaglaaPlaind
namespace Go.Proofs.Ytopgkaekbbaglaa.Pl

theorem readVars_size {p ar : ByteArray} : ∀ {m n : Nat} {acc vs : ByteArray} {n1 : Nat}, readVars p ar m n acc = some (vs, n1) → n ≤ p.size → vs.size = acc.size + m ∧ n1 ≤ p.size
  | 0, n, acc, vs, n1, h, hn => by
    simp [readVars] at h
    obtain ⟨rfl, rfl⟩ := h
    exact ⟨rfl, hn⟩
  | m + 1, n, acc, vs, n1, h, hn => by
    unfold readVars at h
    split at h
    · rename_i hc
      simp only [Bool.and_eq_true] at hc
      have hl := isLet_lt hc.1.1
      have := readVars_size h hl
      rw [ByteArray.size_append, sub1_size hl] at this
      omega
    · cases h
theorem declVars_le {p ar : ByteArray} : ∀ {k n : Nat} {acc vs : ByteArray} {n1 : Nat}, declVars p ar k n acc = some (vs, n1) → n ≤ p.size → n1 ≤ p.size
  | 0, n, acc, vs, n1, h, hn => by
    simp [declVars] at h
    omega
  | k + 1, n, acc, vs, n1, h, hn => by
    unfold declVars at h
    split at h
    · rename_i hc
      have hl := isLet_lt hc
      split at h
      · cases h
      · exact declVars_le h hl
    · simp at h
      omega
/-- what is known of a step -/
structure Good (p : ByteArray) (i : Inf) : Prop where
  lt : i.at_ < i.end_
  le : i.end_ ≤ p.size
  two : i.kind = 61 → i.vars.size = 2
  one : i.kind = 46 ∨ i.kind = 45 → i.vars.size = 1
theorem many_46 : many 46 = 1 := rfl
theorem goods (p : ByteArray) : ∀ k : Nat,
    (∀ n ar sc i b0 b1 n1, istep p k n ar sc = some (i, b0, b1, n1) → n < p.size → Good p i ∧ (∀ j, j ∈ b0.flat → Good p j) ∧ (∀ j, j ∈ b1.flat → Good p j) ∧ n1 ≤ p.size ∧ i.nb ≤ 2) ∧
    (∀ n ar sc t n1, isteps p k n ar sc = some (t, n1) → n ≤ p.size → (∀ j, j ∈ t.flat → Good p j) ∧ n1 ≤ p.size) ∧
    (∀ n ar sc t n1, ibody p k n ar sc = some (t, n1) → n ≤ p.size → (∀ j, j ∈ t.flat → Good p j) ∧ n1 ≤ p.size) := by
  intro k
  induction k with
  | zero => exact ⟨fun _ _ _ _ _ _ _ h => by simp [istep] at h, fun _ _ _ _ _ h => by simp [isteps] at h, fun _ _ _ _ _ h => by simp [ibody] at h⟩
  | succ k ih =>
    obtain ⟨h1, h2, h3⟩ := ih
    have hnil : ∀ j, j ∈ T.nil.flat → Good p j := fun j hj => by simp [T.flat] at hj
    refine ⟨?_, ?_, ?_⟩
    · intro n ar sc i b0 b1 n1 h hn
      unfold istep at h
      split at h
      · cases h
      · rename_i vs m hv
        have hgt := readVars_gt hv
        obtain ⟨hvs, hm⟩ := readVars_size hv hn
        split at h
        · rename_i hk
          split at h
          · cases h
          · rename_i c0 m2 hb
            have g1 := (gts p k).2.2 _ _ _ _ _ hb
            have q1 := h3 _ _ _ _ _ hb hm
            split at h
            · cases h
            · rename_i c1 m3 hb'
              have g2 := (gts p k).2.2 _ _ _ _ _ hb'
              have q2 := h3 _ _ _ _ _ hb' q1.2
              simp at h; obtain ⟨rfl, rfl, rfl, rfl⟩ := h
              exact ⟨⟨by show n < m3; omega, q2.2, fun e => by simp [hk] at e, fun e => by simp [hk] at e⟩, q1.1, q2.1, q2.2, Nat.le_refl _⟩
        · split at h
          · rename_i hk
            split at h
            · cases h
            · rename_i c0 m2 hb
              have g1 := (gts p k).2.2 _ _ _ _ _ hb
              have q1 := h3 _ _ _ _ _ hb hm
              simp at h; obtain ⟨rfl, rfl, rfl, rfl⟩ := h
              exact ⟨⟨by show n < m2; omega, q1.2, fun e => by simp [hk] at e, fun e => by simp [hk] at e⟩, q1.1, hnil, q1.2, (show (1 : Nat) ≤ 2 by decide)⟩
          · split at h
            · rename_i hk
              split at h
              · cases h
              · rename_i vs' m2 hd
                have g0 := declVars_gt hd
                split at h
                · cases h
                · rename_i hco
                  split at h
                  · cases h
                  · rename_i c0 m3 hs
                    have hcol : isAt p m2 58 = true := by
                      cases hx : isAt p m2 58
                      · exact absurd (.inr (.inr hx)) hco
                      · rfl
                    have g1 := (gts p k).2.1 _ _ _ _ _ hs
                    have q1 := h2 _ _ _ _ _ hs (isAt_lt hcol)
                    split at h
                    · rename_i hbr
                      have g2 := isAt_lt hbr
                      simp at h; obtain ⟨rfl, rfl, rfl, rfl⟩ := h
                      exact ⟨⟨by show n < m3 + 1; omega, g2, fun e => by simp [hk] at e, fun e => by simp [hk] at e⟩, q1.1, hnil, g2, (show (1 : Nat) ≤ 2 by decide)⟩
                    · cases h
            · simp at h; obtain ⟨rfl, rfl, rfl, rfl⟩ := h
              refine ⟨⟨by show n < m; omega, hm, fun e => ?_, fun e => ?_⟩, hnil, hnil, hm, Nat.zero_le _⟩
              · have e' : bAt p n = 61 := e
                show vs.size = 2
                rw [e', show many 61 = 2 from rfl] at hvs
                simpa using hvs
              · have e' : bAt p n = 46 ∨ bAt p n = 45 := e
                show vs.size = 1
                have e2 : many (bAt p n) = 1 := by rcases e' with e' | e' <;> rw [e'] <;> rfl
                rw [e2] at hvs
                simpa using hvs
    · intro n ar sc t n1 h hn
      unfold isteps at h
      split at h
      · rename_i hkd
        split at h
        · cases h
        · rename_i i b0 b1 m hs
          have q1 := h1 _ _ _ _ _ _ _ hs (isKind_lt hkd)
          split at h
          · cases h
          · rename_i r m2 hr
            have q2 := h2 _ _ _ _ _ hr q1.2.2.2.1
            simp at h; obtain ⟨rfl, rfl⟩ := h
            refine ⟨fun j hj => ?_, q2.2⟩
            simp only [T.flat, List.mem_cons, List.mem_append] at hj
            rcases hj with rfl | ((hj | hj) | hj)
            · exact q1.1
            · split at hj
              · exact q1.2.1 j hj
              · cases hj
            · split at hj
              · exact q1.2.2.1 j hj
              · cases hj
            · exact q2.1 j hj
      · simp at h; obtain ⟨rfl, rfl⟩ := h
        exact ⟨hnil, hn⟩
    · intro n ar sc t n1 h hn
      unfold ibody at h
      split at h
      · rename_i ha
        split at h
        · cases h
        · rename_i b m hs
          have q1 := h2 _ _ _ _ _ hs (isAt_lt ha)
          split at h
          · rename_i hb
            simp at h; obtain ⟨rfl, rfl⟩ := h
            exact ⟨q1.1, isAt_lt hb⟩
          · cases h
      · cases h
theorem parse_good {p : ByteArray} {i : Inf} {b0 b1 : T} (h : IParse p = some (i, b0, b1)) : ∀ j, j ∈ (T.cons i b0 b1 .nil).flat → Good p j := by
  unfold IParse at h
  split at h
  · cases h
  · rename_i hp
    split at h
    · cases h
    · rename_i j c0 c1 m hs
      split at h
      · rename_i hm
        simp at h
        obtain ⟨rfl, rfl, rfl⟩ := h
        have hpos : 0 < p.size := by omega
        have q := (goods p _).1 _ _ _ _ _ _ _ hs hpos
        intro j hj
        simp only [T.flat, List.mem_cons, List.mem_append, List.append_nil] at hj
        rcases hj with rfl | (hj | hj)
        · exact q.1
        · split at hj
          · exact q.2.1 j hj
          · cases hj
        · split at hj
          · exact q.2.2.1 j hj
          · cases hj
      · cases h
/-- all steps of a program -/
def Flat (p : ByteArray) : List Inf := match IParse p with
  | none => []
  | some (i, b0, b1) => (T.cons i b0 b1 .nil).flat
theorem flat_good {p : ByteArray} : ∀ j, j ∈ Flat p → Good p j := by
  unfold Flat
  split
  · intro j hj; cases hj
  · rename_i h; exact parse_good h
theorem flat_le (p : ByteArray) : (Flat p).length ≤ 80 := by
  unfold Flat
  split
  · exact Nat.zero_le _
  · rename_i i b0 b1 h
    exact Nat.le_trans (flat_count _) (parse_count h)
/-- the first step that begins at a byte -/
def FindAt (p : ByteArray) (at_ : Int) : Option Inf := (Flat p).find? (fun i => (i.at_ : Int) == at_)
theorem find_good {p : ByteArray} {a : Int} {i : Inf} (h : FindAt p a = some i) : Good p i := flat_good i (List.mem_of_find?_eq_some h)
/-- the variable whose value a step needs -/
def need (i : Inf) : ByteArray := if i.kind = 61 then i.vars.extract 1 i.vars.size else if i.kind = 46 ∨ i.kind = 45 then i.vars else ⟨#[]⟩
end Go.Proofs.Ytopgkaekbbaglaa.Pl
