/- The law FnExactProgramValid: the walk, and the row. -/
import Derived.Test.YtopgkaekbbaglaaRows
import Derived.Test.YtopgkaekbbaglaaSn
import Derived.WalkKit
import Derived.ProofKit
import Derived.OpenShut
import Derived.ShutString
import Derived.ChangeOld
import Derived.Below
import Derived.SizedLaws
namespace Go.Proofs.Ytopgkaekbbaglaa
open Go.RowKit Pl
set_option maxHeartbeats 800000 in
theorem law_valid (p : ByteArray) (w : World) : Calls Try.prog 6 #[.string p] w fun e w' => e = .returned (.bool true) ∧ Below w.heap.size w w' := by
  by_cases h : 1048576 < p.size
  · have g : decide ((1048576 : Int) < (p.size : Int)) = true := by simp; omega
    go_enter Try.func6, Try.ntmps6
    go_wp2_with fail
    go_ret
    exact ⟨rfl, Below.refl _ _⟩
  · have g : decide ((1048576 : Int) < (p.size : Int)) = false := by simp; omega
    have hp : p.size ≤ 1048576 := by omega
    clear h
    go_enter Try.func6, Try.ntmps6
    go_wp2_with fail
    refine (svalid_any p w hp).mono ?_
    rintro e w1 ⟨rfl, hb1⟩
    rw [parse_eq]
    go_wp2_with fail
    refine (valid_any p w1 hp).mono ?_
    rintro e w2 ⟨rfl, hb2⟩
    have HB := Lib.hid (hb1.trans (hb2.mono hb1.size))
    clear hb1 hb2
    cases (IParse p).isSome
    all_goals
      go_wp2_with fail
      go_ret
      exact ⟨rfl, HB.out⟩
end Go.Proofs.Ytopgkaekbbaglaa
