/- Bounds of the reference's reader: it stays in the text; its depth is given back; what it reads is no longer than the text. No Go, no memory. -/
import Derived.Test.YtopgkaekbbaglaaPlainb
namespace Go.Proofs.Ytopgkaekbbaglaa.Pl

theorem sis_le {p : ByteArray} {c : UInt8} {s : RS} (h : s.at_ ≤ p.size) : (sis p c s).at_ ≤ p.size := by
  unfold sis
  split
  · rename_i ha; exact isAt_lt ha
  · exact h
theorem svar_le {p f : ByteArray} {s : RS} (h : s.at_ ≤ p.size) : (svar p f s).2.at_ ≤ p.size := by
  unfold svar
  split
  · rename_i ha
    simp at ha
    exact ha.1
  · exact h
theorem svar_dep (p f : ByteArray) (s : RS) : (svar p f s).2.dep = s.dep := by unfold svar; split <;> rfl
theorem svar_size (p f : ByteArray) (s : RS) : (svar p f s).1.size = 1 := by
  unfold svar
  split
  · rename_i ha
    simp at ha
    exact sub1_size ha.1
  · rfl
theorem svarsL_le {p ar : ByteArray} : ∀ (k : Nat) (acc : ByteArray) (s : RS), s.at_ ≤ p.size → (svarsL p ar k acc s).2.at_ ≤ p.size ∧ (svarsL p ar k acc s).2.dep = s.dep ∧ (svarsL p ar k acc s).1.size + s.at_ = acc.size + (svarsL p ar k acc s).2.at_
  | 0, _, _, h => ⟨h, rfl, rfl⟩
  | k + 1, acc, s, h => by
    unfold svarsL
    split
    · rename_i hl
      have hlt := isLet_lt hl
      have ih := svarsL_le (p := p) (ar := ar) k (acc ++ sub1 p s.at_) (badIf (has (ar ++ acc) (bAt p s.at_)) (adv s)) hlt
      obtain ⟨a, b, c⟩ := ih
      refine ⟨a, b, ?_⟩
      rw [ByteArray.size_append, sub1_size hlt] at c
      simp only [badIf_at, adv_at] at c
      omega
    · exact ⟨h, rfl, rfl⟩
theorem svars_le {p ar : ByteArray} {s : RS} (h : s.at_ ≤ p.size) : (svars p ar s).2.at_ ≤ p.size ∧ (svars p ar s).2.dep = s.dep ∧ (svars p ar s).1.size + s.at_ = (svars p ar s).2.at_ := by
  have := svarsL_le (p := p) (ar := ar) (p.size - s.at_) ByteArray.empty s h
  unfold svars
  simp only [badIf_at]
  refine ⟨this.1, this.2.1, ?_⟩
  have h3 := this.2.2
  simp at h3
  omega

theorem slims (p : ByteArray) : ∀ k : Nat,
    (∀ ar s, s.at_ < p.size → (sstep p k ar s).2.2.2.at_ ≤ p.size ∧ (sstep p k ar s).2.2.2.dep = s.dep) ∧
    (∀ ar e s, s.at_ ≤ p.size → (sloop p k ar e s).2.at_ ≤ p.size ∧ (sloop p k ar e s).2.dep = s.dep) ∧
    (∀ ar e s, s.at_ ≤ p.size → (sbody p k ar e s).2.at_ ≤ p.size ∧ (sbody p k ar e s).2.dep = s.dep) := by
  intro k
  induction k with
  | zero => exact ⟨fun ar s h => ⟨Nat.le_of_lt h, rfl⟩, fun ar e s h => ⟨h, rfl⟩, fun ar e s h => ⟨h, rfl⟩⟩
  | succ k ih =>
    obtain ⟨h1, h2, h3⟩ := ih
    refine ⟨?_, ?_, ?_⟩
    · intro ar s hs
      have ha : (adv s).at_ ≤ p.size := hs
      have hb : ∀ ar' e s', s'.at_ ≤ p.size → (sbody p k ar' e s').2.at_ ≤ p.size ∧ (sbody p k ar' e s').2.dep = s'.dep := h3
      unfold sstep
      simp only []
      split
      · exact ⟨svar_le ha, svar_dep _ _ _⟩
      split
      · exact ⟨svar_le (svar_le ha), by show (svar p ar (svar p ar (adv s)).2).2.dep = _; rw [svar_dep, svar_dep]; rfl⟩
      split
      · exact ⟨ha, rfl⟩
      split
      · have a := hb ar 93 (sis p 91 (adv s)) (sis_le ha)
        have b := hb ar 93 (sis p 91 (sbody p k ar 93 (sis p 91 (adv s))).2) (sis_le a.1)
        exact ⟨b.1, by rw [b.2, sis_dep, a.2, sis_dep]; rfl⟩
      split
      · have a := hb ar 93 (sis p 91 (adv s)) (sis_le ha)
        exact ⟨a.1, by rw [a.2, sis_dep]; rfl⟩
      split
      · have v := svars_le (p := p) (ar := ar) (s := into (adv s)) ha
        have a := hb (ar ++ (svars p ar (into (adv s))).1) 125 (sis p 58 (svars p ar (into (adv s))).2) (sis_le v.1)
        refine ⟨a.1, ?_⟩
        show (sbody p k _ 125 _).2.dep - 1 = s.dep
        rw [a.2, sis_dep, v.2.1]
        show s.dep + 1 - 1 = s.dep
        omega
      · exact ⟨ha, rfl⟩
    · intro ar e s hs
      unfold sloop
      split
      · rename_i h
        simp only []
        have a := h1 ar s h.2.1
        have b := h2 ar e (sstep p k ar s).2.2.2 a.1
        exact ⟨b.1, by rw [b.2, a.2]⟩
      · exact ⟨hs, rfl⟩
    · intro ar e s hs
      unfold sbody
      simp only []
      have a := h2 ar e s hs
      exact ⟨sis_le a.1, by rw [sis_dep, a.2]⟩
theorem SStep_le {p ar : ByteArray} {s : RS} (h : s.at_ < p.size) : (SStep p ar s).2.2.2.at_ ≤ p.size := ((slims p _).1 ar s h).1
theorem SStep_dep {p ar : ByteArray} {s : RS} (h : s.at_ < p.size) : (SStep p ar s).2.2.2.dep = s.dep := ((slims p _).1 ar s h).2
theorem SLoop_le {p ar : ByteArray} {e : UInt8} {s : RS} (h : s.at_ ≤ p.size) : (SLoop p ar e s).2.at_ ≤ p.size := ((slims p _).2.1 ar e s h).1
theorem SLoop_dep {p ar : ByteArray} {e : UInt8} {s : RS} (h : s.at_ ≤ p.size) : (SLoop p ar e s).2.dep = s.dep := ((slims p _).2.1 ar e s h).2
theorem SBody_le {p ar : ByteArray} {e : UInt8} {s : RS} (h : s.at_ ≤ p.size) : (SBody p ar e s).2.at_ ≤ p.size := ((slims p _).2.2 ar e s h).1
theorem SBody_dep {p ar : ByteArray} {e : UInt8} {s : RS} (h : s.at_ ≤ p.size) : (SBody p ar e s).2.dep = s.dep := ((slims p _).2.2 ar e s h).2
end Go.Proofs.Ytopgkaekbbaglaa.Pl
