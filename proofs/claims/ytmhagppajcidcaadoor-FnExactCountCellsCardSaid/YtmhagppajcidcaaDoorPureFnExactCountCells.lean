/- FnExactCountCells: the plain law. -/
import Derived.Test.YtmhagppajcidcaaDoorPK
import Derived.Test.YtmhagppajcidcaaDoorQ4
namespace Go.Proofs.YtmhagppajcidcaaDoor.Pr
open Go.RowKit Go.Proofs.YtmhagppajcidcaaDoorW.PrintWords Go.Proofs.YtmhagppajcidcaaDoorW.PrintLast Go.Proofs.YtmhagppajcidcaaDoorW.PrintMore
theorem countCellsS_ev (a0 : ByteArray) (hs : a0.size ≤ 1048576) : Ev (fun k => spec_CountCells.f k a0) (manyOf Gf a0) := by
  obtain ⟨m, l, g, hm, hl⟩ := told_good a0
  have h1 := g.cells_length (G := Gf)
  have h2 := g.made
  have ht := g.taken (G := Gf) getter_first.bound
  unfold spec_CountCells.f manyOf
  refine Ev.bind (l7Read_ev a0 hs) ?_
  dsimp only
  split
  · exact Ev.bind (cells_ev g (by omega)) (Ev.bind (count_ev _ (by omega) (fun y hy => by have := ht.2.2 y hy; omega)) (Ev.now _))
  · exact Ev.now _
theorem countCellsI_ev (a0 : ByteArray) (hs : a0.size ≤ 1048576) : Ev (fun _ => impl_CountCells.f a0) (manyOf Gf a0) := by
  unfold impl_CountCells.f
  simp only [kept_f a0 hs, Option.bind_some]
  exact Ev.now _
end Go.Proofs.YtmhagppajcidcaaDoor.Pr
namespace Go.Proofs.YtmhagppajcidcaaDoor.Pure
open Go.RowKit Go.Proofs.YtmhagppajcidcaaDoorW.PrintWords Go.Proofs.YtmhagppajcidcaaDoorW.PrintLast Go.Proofs.YtmhagppajcidcaaDoorW.PrintMore
open Go.Proofs.YtmhagppajcidcaaDoor.Pr
theorem FnExactCountCells : laws_FnExactCountCells.Pure := by
  intro a0 _
  by_cases hs : (a0.size : Int) > 1048576
  · exact ⟨0, by unfold laws_FnExactCountCells.f; rw [if_pos hs]⟩
  · refine Ev.rounds ?_
    unfold laws_FnExactCountCells.f
    simp only [if_neg hs]
    refine Ev.bind (countCellsS_ev a0 (by omega)) (Ev.bind (countCellsI_ev a0 (by omega)) ?_)
    simp only [if_true]
    exact Ev.now _
end Go.Proofs.YtmhagppajcidcaaDoor.Pure
