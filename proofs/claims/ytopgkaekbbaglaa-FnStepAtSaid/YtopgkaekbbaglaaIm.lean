/- The contracts of the program's reader, joined: every step, every row of steps, every body; the whole text. -/
import Derived.Test.YtopgkaekbbaglaaIi
import Derived.Test.YtopgkaekbbaglaaIj
import Derived.Test.YtopgkaekbbaglaaIk
import Derived.Test.YtopgkaekbbaglaaIl
namespace Go.Proofs.Ytopgkaekbbaglaa
open Go.RowKit Pl

theorem step_any (p : ByteArray) (n : Nat) (hp : p.size ≤ 80) (hB : ∀ m, n < m → BodyC p m) (hS : ∀ m, n < m → StepsC p m) : StepC p n := by
  by_cases h1 : bAt p n = 123
  · exact step_scope p n hp h1 hS
  by_cases h2 : bAt p n = 63
  · exact step_branch p n hp h2 hB
  by_cases h3 : bAt p n = 42
  · exact step_star p n hp h3 hB
  have hb : inBrackets (bAt p n) = 0 := by simp [inBrackets, h2, h3]
  by_cases h4 : bAt p n = 61
  · exact step_two p n hp (by rw [h4]; rfl) hb h1
  by_cases h5 : bAt p n = 43 ∨ bAt p n = 46 ∨ bAt p n = 45 ∨ bAt p n = 126
  · exact step_one p n hp (by simp [many, h5]) hb h1
  · exact step_zero p n hp (by simp [many, h5, h4]) hb h1

theorem all_any (p : ByteArray) (hp : p.size ≤ 80) : ∀ d n : Nat, 81 - n = d → StepC p n ∧ StepsC p n ∧ BodyC p n := by
  intro d
  induction d using Nat.strongRecOn with
  | _ d ih =>
    intro n hd
    by_cases hn : 81 ≤ n
    · refine ⟨fun w b ar sc hr h => absurd h (by omega), ?_, ?_⟩
      · intro w b ar sc hr h
        omega
      · intro w b ar sc hr h
        omega
    · have hB : ∀ m, n < m → BodyC p m := fun m hm => (ih (81 - m) (by omega) m rfl).2.2
      have hS : ∀ m, n < m → StepsC p m := fun m hm => (ih (81 - m) (by omega) m rfl).2.1
      have h1 := step_any p n hp hB hS
      have h2 : StepsC p n := steps_any p n hp (fun m hm => by
        rcases Nat.lt_or_ge n m with h | h
        · exact (ih (81 - m) (by omega) m rfl).1
        · have : m = n := by omega
          subst this
          exact h1)
      exact ⟨h1, h2, body_any p n hp (hS (n + 1) (by omega))⟩
theorem step_all (p : ByteArray) (hp : p.size ≤ 80) (n : Nat) : StepC p n := (all_any p hp (81 - n) n rfl).1
end Go.Proofs.Ytopgkaekbbaglaa
