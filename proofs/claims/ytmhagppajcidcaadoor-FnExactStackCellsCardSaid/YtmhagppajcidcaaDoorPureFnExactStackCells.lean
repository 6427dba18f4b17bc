/- FnExactStackCells: the plain law. -/
import Derived.Test.YtmhagppajcidcaaDoorPK
import Derived.Test.YtmhagppajcidcaaDoorQ7
namespace Go.Proofs.YtmhagppajcidcaaDoor.Pr
open Go.RowKit Go.Proofs.YtmhagppajcidcaaDoorW.PrintWords Go.Proofs.YtmhagppajcidcaaDoorW.PrintLast Go.Proofs.YtmhagppajcidcaaDoorW.PrintMore
theorem stackCellsS_ev (a0 : ByteArray) (hs : a0.size ≤ 1048576) : Ev (fun k => spec_StackCells.f k a0) (cellsOf cntOf a0) := by
  obtain ⟨m, l, g, hm, hl⟩ := told_good a0
  unfold spec_StackCells.f cellsOf
  refine Ev.bind (l7Read_ev a0 hs) ?_
  dsimp only
  split
  · exact Ev.bind (stack_ev g (by omega)) (Ev.now _)
  · exact Ev.now _
theorem stackCellsI_ev (a0 : ByteArray) (hs : a0.size ≤ 1048576) : Ev (fun _ => impl_StackCells.f a0) (cellsOf cntOf a0) := by
  unfold impl_StackCells.f
  simp only [above_f a0 hs, Option.bind_some]
  exact Ev.now _
end Go.Proofs.YtmhagppajcidcaaDoor.Pr
namespace Go.Proofs.YtmhagppajcidcaaDoor.Pure
open Go.RowKit Go.Proofs.YtmhagppajcidcaaDoorW.PrintWords Go.Proofs.YtmhagppajcidcaaDoorW.PrintLast Go.Proofs.YtmhagppajcidcaaDoorW.PrintMore
open Go.Proofs.YtmhagppajcidcaaDoor.Pr
theorem FnExactStackCells : laws_FnExactStackCells.Pure := by
  intro a0 _
  by_cases hs : (a0.size : Int) > 1048576
  · exact ⟨0, by unfold laws_FnExactStackCells.f; rw [if_pos hs]⟩
  · have h1 := stackCellsS_ev a0 (by omega)
    have h2 := stackCellsI_ev a0 (by omega)
    have hlen := cellsOf_len cntOf a0
    generalize cellsOf cntOf a0 = r at h1 h2 hlen
    refine Ev.rounds ?_
    unfold laws_FnExactStackCells.f
    simp only [if_neg hs]
    refine Ev.bind h1 (Ev.bind h2 (Ev.bind (eqInt_ev r.1 (by omega)) ?_))
    simp only [if_true, bne_self_eq_false]
    refine Ev.step (fun k => laws_FnExactStackCells.j0.eq_2 (k := k) ..) ?_
    simp only [Bool.false_eq_true, if_false]
    refine Ev.bind (mark_ev r.1 (by omega)) (Ev.bind (held_ev r.1.length (by omega)) ?_)
    simp only [if_neg (show ¬ (((r.1.length + 1 : Nat) : Int) < 0) by omega), if_true]
    refine Ev.bind h2 (Ev.bind (eqInt_ev r.1 (by omega)) ?_)
    simp only [if_true, bne_self_eq_false]
    refine Ev.step (fun k => laws_FnExactStackCells.j1.eq_2 (k := k) ..) ?_
    simp only [Bool.false_eq_true, if_false]
    refine Ev.bind (held_ev r.1.length (by omega)) ?_
    simp only [if_neg (show ¬ (((r.1.length + 1 : Nat) : Int) < 0) by omega), if_true]
    exact Ev.now _
end Go.Proofs.YtmhagppajcidcaaDoor.Pure
