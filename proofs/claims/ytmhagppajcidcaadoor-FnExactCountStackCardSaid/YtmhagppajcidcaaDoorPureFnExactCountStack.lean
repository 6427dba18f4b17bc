/- FnExactCountStack: the plain law. -/
import Derived.Test.YtmhagppajcidcaaDoorPK
import Derived.Test.YtmhagppajcidcaaDoorQ3
namespace Go.Proofs.YtmhagppajcidcaaDoor.Pr
open Go.RowKit Go.Proofs.YtmhagppajcidcaaDoorW.PrintWords Go.Proofs.YtmhagppajcidcaaDoorW.PrintLast Go.Proofs.YtmhagppajcidcaaDoorW.PrintMore
theorem countStackS_ev (a0 : ByteArray) (hs : a0.size ≤ 1048576) : Ev (fun k => spec_CountStack.f k a0) (manyOf cntOf a0) := by
  obtain ⟨m, l, g, hm, hl⟩ := told_good a0
  have h1 := g.cells_length (G := cntOf)
  have h2 := g.made
  have ht := g.taken (G := cntOf) getter_above.bound
  unfold spec_CountStack.f manyOf
  refine Ev.bind (l7Read_ev a0 hs) ?_
  dsimp only
  split
  · exact Ev.bind (stack_ev g (by omega)) (Ev.bind (count_ev _ (by omega) (fun y hy => by have := ht.2.2 y hy; omega)) (Ev.now _))
  · exact Ev.now _
theorem countStackI_ev (a0 : ByteArray) (hs : a0.size ≤ 1048576) : Ev (fun _ => impl_CountStack.f a0) (manyOf cntOf a0) := by
  unfold impl_CountStack.f
  simp only [above_f a0 hs, Option.bind_some]
  exact Ev.now _
end Go.Proofs.YtmhagppajcidcaaDoor.Pr
namespace Go.Proofs.YtmhagppajcidcaaDoor.Pure
open Go.RowKit Go.Proofs.YtmhagppajcidcaaDoorW.PrintWords Go.Proofs.YtmhagppajcidcaaDoorW.PrintLast Go.Proofs.YtmhagppajcidcaaDoorW.PrintMore
open Go.Proofs.YtmhagppajcidcaaDoor.Pr
theorem FnExactCountStack : laws_FnExactCountStack.Pure := by
  intro a0 _
  by_cases hs : (a0.size : Int) > 1048576
  · exact ⟨0, by unfold laws_FnExactCountStack.f; rw [if_pos hs]⟩
  · refine Ev.rounds ?_
    unfold laws_FnExactCountStack.f
    simp only [if_neg hs]
    refine Ev.bind (countStackS_ev a0 (by omega)) (Ev.bind (countStackI_ev a0 (by omega)) ?_)
    simp only [if_true]
    exact Ev.now _
end Go.Proofs.YtmhagppajcidcaaDoor.Pure
