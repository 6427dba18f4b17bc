/- FnExactMostAlive: the plain law. -/
import Derived.Test.YtlikgaohcnbocaaDoorPFb
import Derived.Test.YtlikgaohcnbocaaDoorQ9
namespace Go.Proofs.YtlikgaohcnbocaaDoor.Pr
open Go.RowKit Go.Proofs.YtlikgaohcnbocaaDoorW.PrintWords Go.Proofs.YtlikgaohcnbocaaDoorW.PrintLast Go.Proofs.YtlikgaohcnbocaaDoorW.PrintMore
/-! most alive -/
def mst (xs : List S48) : Nat → Int → Int → Int
  | 0, _, a => a
  | d + 1, i, a => mst xs d (i + 1) (mx a ((alv xs 0 i).length : Int))
def mostOf (a0 : ByteArray) : Int := if (toldOf a0).2.2 = true then mst (lvs (toldOf a0).1) (toldOf a0).1.length 0 0 else -1
theorem mostS_go {o : List S62} {m : Nat} {l : List Int} (g : Good o m l) (hl : o.length ≤ 1000000) : ∀ (d i : Nat) (a : Int), i + d = o.length →
    Ev (fun k => spec_MostAlive.l0 k (o.map conv) a ((o.map conv).length : Int) (i : Int)) (mst (lvs o) d i a)
  | 0, i, a, hi => by
    refine Ev.step (fun k => spec_MostAlive.l0.eq_2 (k := k) ..) ?_
    simp only [if_neg (show ¬ ((i : Int) < ((o.map conv).length : Int)) by simp; omega)]
    exact Ev.now _
  | d + 1, i, a, hi => by
    have h1 := g.lvs_length
    have h2 := g.made
    have ih := mostS_go g hl d (i + 1) (mx a ((alv (lvs o) 0 i).length : Int)) (by omega)
    refine Ev.step (fun k => spec_MostAlive.l0.eq_2 (k := k) ..) ?_
    simp only [if_pos (show ((i : Int) < ((o.map conv).length : Int)) by simp; omega)]
    refine Ev.bind (lives_ev g hl) (Ev.bind (l7Alive_ev _ _ (by omega)) ?_)
    rw [wrap_up (by omega)]
    exact ih
theorem mostI_go (xs : List S48) (hx : xs.length ≤ 1000000) (n : Nat) (hn : n ≤ 1000000) : ∀ (d i : Nat) (a : Int), i + d = n →
    Ev (fun k => impl_MostAlive.l0 k a xs (n : Int) (i : Int)) (mst xs d i a)
  | 0, i, a, hi => by
    refine Ev.step (fun k => impl_MostAlive.l0.eq_2 (k := k) ..) ?_
    simp only [if_neg (show ¬ ((i : Int) < (n : Int)) by omega)]
    exact Ev.now _
  | d + 1, i, a, hi => by
    have ih := mostI_go xs hx n hn d (i + 1) (mx a ((alv xs 0 i).length : Int)) (by omega)
    refine Ev.step (fun k => impl_MostAlive.l0.eq_2 (k := k) ..) ?_
    simp only [if_pos (show ((i : Int) < (n : Int)) by omega)]
    refine Ev.bind (alive_ev _ _ hx) ?_
    rw [wrap_up (by omega)]
    exact ih
theorem mostS_ev (a0 : ByteArray) (hs : a0.size ≤ 1048576) : Ev (fun k => spec_MostAlive.f k a0) (mostOf a0) := by
  obtain ⟨m, l, g, hm, hl⟩ := told_good a0
  unfold spec_MostAlive.f mostOf
  refine Ev.bind (l7Read_ev a0 hs) ?_
  dsimp only
  split
  · exact mostS_go g (by omega) _ 0 0 (Nat.zero_add _)
  · exact Ev.now _
theorem mostI_ev (a0 : ByteArray) (hs : a0.size ≤ 1048576) : Ev (fun k => impl_MostAlive.f k a0) (mostOf a0) := by
  obtain ⟨m, l, g, hm, hl⟩ := told_good a0
  have h1 := g.lvs_length
  have h2 := g.made
  unfold impl_MostAlive.f mostOf
  simp only [told_f a0 hs, Option.bind_some, hm]
  split
  · simp only [lives_told g (by omega), Option.bind_some]
    exact mostI_go _ (by omega) _ (by omega) _ 0 0 (Nat.zero_add _)
  · exact Ev.now _
end Go.Proofs.YtlikgaohcnbocaaDoor.Pr
namespace Go.Proofs.YtlikgaohcnbocaaDoor.Pure
open Go.RowKit Go.Proofs.YtlikgaohcnbocaaDoorW.PrintWords Go.Proofs.YtlikgaohcnbocaaDoorW.PrintLast Go.Proofs.YtlikgaohcnbocaaDoorW.PrintMore
open Go.Proofs.YtlikgaohcnbocaaDoor.Pr
theorem FnExactMostAlive : laws_FnExactMostAlive.Pure := by
  intro a0 _
  by_cases hs : (a0.size : Int) > 1048576
  · exact ⟨0, by unfold laws_FnExactMostAlive.f; rw [if_pos hs]⟩
  · refine Ev.rounds ?_
    unfold laws_FnExactMostAlive.f
    simp only [if_neg hs]
    refine Ev.bind (mostS_ev a0 (by omega)) (Ev.bind (mostI_ev a0 (by omega)) ?_)
    simp only [if_true]
    exact Ev.now _
end Go.Proofs.YtlikgaohcnbocaaDoor.Pure
