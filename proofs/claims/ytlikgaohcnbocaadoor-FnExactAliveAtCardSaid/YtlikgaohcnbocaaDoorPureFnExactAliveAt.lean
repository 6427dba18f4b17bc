/- FnExactAliveAt: the plain law. -/
import Derived.Test.YtlikgaohcnbocaaDoorPFb
import Derived.Test.YtlikgaohcnbocaaDoorQ11
import Derived.Test.YtlikgaohcnbocaaDoorQ53
namespace Go.Proofs.YtlikgaohcnbocaaDoor.Pr
open Go.RowKit Go.Proofs.YtlikgaohcnbocaaDoorW.PrintWords Go.Proofs.YtlikgaohcnbocaaDoorW.PrintLast Go.Proofs.YtlikgaohcnbocaaDoorW.PrintMore
/-! alive at -/
def aliveAtOf (a0 : ByteArray) (k : Int) : List Int × Bool := if (toldOf a0).2.2 = true ∧ 0 ≤ k ∧ k < ((toldOf a0).1.length : Int) then (alv (lvs (toldOf a0).1) 0 k, true) else ([], false)
theorem aliveAtOf_len (a0 : ByteArray) (a1 : Int) : (aliveAtOf a0 a1).1.length ≤ 600 := by
  obtain ⟨m, l, g, hm, hl⟩ := told_good a0
  have h1 := g.lvs_length
  have h2 := g.made
  have h3 := alv_length a1 (lvs (toldOf a0).1) 0
  unfold aliveAtOf
  split
  · dsimp only; omega
  · simp
theorem aliveAtS_ev (a0 : ByteArray) (a1 : Int) (hs : a0.size ≤ 1048576) : Ev (fun k => spec_AliveAt.f k a0 a1) (aliveAtOf a0 a1) := by
  obtain ⟨m, l, g, hm, hl⟩ := told_good a0
  have h1 := g.lvs_length
  have h2 := g.made
  have no : ∀ (x : Int) (ys : List S59), Ev (fun k => spec_AliveAt.j0 k x ys true) ([], false) := fun x ys => by
    refine Ev.step (fun k => spec_AliveAt.j0.eq_2 (k := k) ..) ?_
    simp only [if_true]
    exact Ev.now _
  have yes : Ev (fun k => spec_AliveAt.j0 k a1 ((toldOf a0).1.map conv) false) (alv (lvs (toldOf a0).1) 0 a1, true) := by
    refine Ev.step (fun k => spec_AliveAt.j0.eq_2 (k := k) ..) ?_
    simp only [Bool.false_eq_true, if_false]
    exact Ev.bind (lives_ev g (by omega)) (Ev.bind (l7Alive_ev _ a1 (by omega)) (Ev.now _))
  have eno : ¬ ((toldOf a0).2.2 = true ∧ 0 ≤ a1 ∧ a1 < ((toldOf a0).1.length : Int)) → aliveAtOf a0 a1 = ([], false) := fun h => by unfold aliveAtOf; rw [if_neg h]
  unfold spec_AliveAt.f
  refine Ev.bind (l7Read_ev a0 hs) ?_
  dsimp only
  rw [List.length_map, wrap_small (by omega) (by omega)]
  unfold spec_l1In.f
  by_cases hb : (toldOf a0).2.2 = true
  · simp only [if_pos hb]
    by_cases h0 : 0 ≤ a1
    · simp only [if_pos (show a1 ≥ 0 from h0), Option.bind_some]
      by_cases hk : a1 < ((toldOf a0).1.length : Int)
      · rw [show aliveAtOf a0 a1 = _ from if_pos ⟨hb, h0, hk⟩]
        simp only [decide_eq_true (show a1 ≤ ((toldOf a0).1.length : Int) - 1 by omega), Bool.not_true]
        exact yes
      · rw [eno (fun h => hk h.2.2)]
        simp only [decide_eq_false (show ¬ a1 ≤ ((toldOf a0).1.length : Int) - 1 by omega), Bool.not_false]
        exact no _ _
    · rw [eno (fun h => h0 h.2.1)]
      simp only [if_neg (show ¬ a1 ≥ 0 from h0), Option.bind_some, Bool.not_false]
      exact no _ _
  · rw [eno (fun h => hb h.1)]
    simp only [if_neg hb]
    exact no _ _
theorem aliveAtI_ev (a0 : ByteArray) (a1 : Int) (hs : a0.size ≤ 1048576) : Ev (fun k => impl_AliveAt.f k a0 a1) (aliveAtOf a0 a1) := by
  obtain ⟨m, l, g, hm, hl⟩ := told_good a0
  have h1 := g.lvs_length
  have h2 := g.made
  have no : ∀ (x : Int) (ys : List S62) (z : Int), Ev (fun k => impl_AliveAt.j0 k x ys z true) ([], false) := fun x ys z => by
    refine Ev.step (fun k => impl_AliveAt.j0.eq_2 (k := k) ..) ?_
    simp only [if_true]
    exact Ev.now _
  have yes : Ev (fun k => impl_AliveAt.j0 k a1 (toldOf a0).1 (m : Int) false) (alv (lvs (toldOf a0).1) 0 a1, true) := by
    refine Ev.step (fun k => impl_AliveAt.j0.eq_2 (k := k) ..) ?_
    simp only [Bool.false_eq_true, if_false, lives_told g (by omega), Option.bind_some]
    exact Ev.bind (alive_ev _ a1 (by omega)) (Ev.now _)
  unfold impl_AliveAt.f aliveAtOf
  simp only [told_f a0 hs, Option.bind_some, hm]
  by_cases hb : (toldOf a0).2.2 = true
  · simp only [if_pos hb]
    by_cases h0 : 0 ≤ a1
    · simp only [if_neg (show ¬ a1 < 0 by omega)]
      by_cases hk : a1 < ((toldOf a0).1.length : Int)
      · rw [if_pos ⟨hb, h0, hk⟩]
        simp only [decide_eq_false (show ¬ a1 ≥ ((toldOf a0).1.length : Int) by omega)]
        exact yes
      · rw [if_neg (fun h => hk h.2.2)]
        simp only [decide_eq_true (show a1 ≥ ((toldOf a0).1.length : Int) by omega)]
        exact no _ _ _
    · rw [if_neg (fun h => h0 h.2.1)]
      simp only [if_pos (show a1 < 0 by omega)]
      exact no _ _ _
  · rw [if_neg (fun h => hb h.1)]
    simp only [if_neg hb]
    exact no _ _ _
end Go.Proofs.YtlikgaohcnbocaaDoor.Pr
namespace Go.Proofs.YtlikgaohcnbocaaDoor.Pure
open Go.RowKit Go.Proofs.YtlikgaohcnbocaaDoorW.PrintWords Go.Proofs.YtlikgaohcnbocaaDoorW.PrintLast Go.Proofs.YtlikgaohcnbocaaDoorW.PrintMore
open Go.Proofs.YtlikgaohcnbocaaDoor.Pr
theorem FnExactAliveAt : laws_FnExactAliveAt.Pure := by
  intro a0 a1 _ _
  by_cases hs : (a0.size : Int) > 1048576
  · exact ⟨0, by unfold laws_FnExactAliveAt.f; rw [if_pos hs]⟩
  · have h1 := aliveAtS_ev a0 a1 (by omega)
    have h2 := aliveAtI_ev a0 a1 (by omega)
    have hlen := aliveAtOf_len a0 a1
    generalize aliveAtOf a0 a1 = r at h1 h2 hlen
    refine Ev.rounds ?_
    unfold laws_FnExactAliveAt.f
    simp only [if_neg hs]
    refine Ev.bind h1 (Ev.bind h2 (Ev.bind (eqInt_ev r.1 (by omega)) ?_))
    simp only [if_true, bne_self_eq_false]
    refine Ev.step (fun k => laws_FnExactAliveAt.j0.eq_2 (k := k) ..) ?_
    simp only [Bool.false_eq_true, if_false]
    refine Ev.bind (mark_ev r.1 (by omega)) (Ev.bind (held_ev r.1.length (by omega)) ?_)
    simp only [if_neg (show ¬ (((r.1.length + 1 : Nat) : Int) < 0) by omega), if_true]
    refine Ev.bind h2 (Ev.bind (eqInt_ev r.1 (by omega)) ?_)
    simp only [if_true, bne_self_eq_false]
    refine Ev.step (fun k => laws_FnExactAliveAt.j1.eq_2 (k := k) ..) ?_
    simp only [Bool.false_eq_true, if_false]
    refine Ev.bind (held_ev r.1.length (by omega)) ?_
    simp only [if_neg (show ¬ (((r.1.length + 1 : Nat) : Int) < 0) by omega), if_true]
    exact Ev.now _
end Go.Proofs.YtlikgaohcnbocaaDoor.Pure
