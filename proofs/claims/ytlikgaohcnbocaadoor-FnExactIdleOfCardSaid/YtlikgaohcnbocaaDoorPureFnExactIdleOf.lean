/- FnExactIdleOf: the plain law. -/
import Derived.Test.YtlikgaohcnbocaaDoorPFc
import Derived.Test.YtlikgaohcnbocaaDoorQ8
namespace Go.Proofs.YtlikgaohcnbocaaDoor.Pr
open Go.RowKit Go.Proofs.YtlikgaohcnbocaaDoorW.PrintWords Go.Proofs.YtlikgaohcnbocaaDoorW.PrintLast Go.Proofs.YtlikgaohcnbocaaDoorW.PrintMore
/-! idle -/
def idl : List S48 → Int → Int
  | [], a => a
  | L :: r, a => if L.f2 ≥ 0 then idl r (a + L.f2 - L.f1 - 1) else idl r a
def Small (xs : List S48) : Prop := ∀ L ∈ xs, 0 ≤ L.f1 ∧ L.f1 ≤ 600 ∧ -1 ≤ L.f2 ∧ L.f2 ≤ 600
theorem Good.small {o : List S62} {m : Nat} {l : List Int} (g : Good o m l) (hl : o.length ≤ 600) : Small (lvs o) := by
  intro L hL
  obtain ⟨j, hj, e⟩ := List.getElem_of_mem hL
  have K := g.life j L (by rw [List.getElem?_eq_getElem hj, e])
  have := K.born; have := K.used; have := K.un; have := K.dn; have := K.d1
  omega
theorem idleS_go (xs : List S48) (hx : xs.length ≤ 600) (hsm : Small xs) : ∀ (d i : Nat) (a : Int), i + d = xs.length → -(1000 * i) ≤ a → a ≤ 1000 * i →
    Ev (fun k => spec_IdleOf.l0 k a xs (xs.length : Int) (i : Int)) (idl (xs.drop i) a)
  | 0, i, a, hi, h1, h2 => by
    refine Ev.step (fun k => spec_IdleOf.l0.eq_2 (k := k) ..) ?_
    simp only [if_neg (show ¬ ((i : Int) < (xs.length : Int)) by omega)]
    rw [List.drop_of_length_le (by omega), idl]
    exact Ev.now _
  | d + 1, i, a, hi, h1, h2 => by
    have hlt : i < xs.length := by omega
    have hL := hsm _ (List.getElem_mem hlt)
    rw [List.drop_eq_getElem_cons hlt, idl]
    refine Ev.step (fun k => spec_IdleOf.l0.eq_2 (k := k) ..) ?_
    simp only [if_pos (show ((i : Int) < (xs.length : Int)) by omega), if_pos (show (0 : Int) ≤ (i : Int) by omega), rd48_at hlt, wrap_up (show i ≤ 1000000000 by omega)]
    split
    · rw [wrap_small (n := a + xs[i].f2) (by omega) (by omega), wrap_small (n := a + xs[i].f2 - xs[i].f1) (by omega) (by omega), wrap_small (n := a + xs[i].f2 - xs[i].f1 - 1) (by omega) (by omega)]
      exact idleS_go xs hx hsm d (i + 1) _ (by omega) (by omega) (by omega)
    · exact idleS_go xs hx hsm d (i + 1) _ (by omega) (by omega) (by omega)
theorem idleI_go (xs : List S48) (hx : xs.length ≤ 600) (hsm : Small xs) : ∀ (d i : Nat) (a : Int), i + d = xs.length → -(1000 * i) ≤ a → a ≤ 1000 * i →
    Ev (fun k => impl_IdleOf.l0 k a xs (xs.length : Int) (i : Int)) (idl (xs.drop i) a)
  | 0, i, a, hi, h1, h2 => by
    refine Ev.step (fun k => impl_IdleOf.l0.eq_2 (k := k) ..) ?_
    simp only [if_neg (show ¬ ((i : Int) < (xs.length : Int)) by omega)]
    rw [List.drop_of_length_le (by omega), idl]
    exact Ev.now _
  | d + 1, i, a, hi, h1, h2 => by
    have hlt : i < xs.length := by omega
    have hL := hsm _ (List.getElem_mem hlt)
    rw [List.drop_eq_getElem_cons hlt, idl]
    refine Ev.step (fun k => impl_IdleOf.l0.eq_2 (k := k) ..) ?_
    simp only [if_pos (show ((i : Int) < (xs.length : Int)) by omega), if_pos (show (0 : Int) ≤ (i : Int) by omega), rd48_at hlt, wrap_up (show i ≤ 1000000000 by omega)]
    split
    · rw [wrap_small (n := xs[i].f2 - xs[i].f1) (by omega) (by omega), wrap_small (n := xs[i].f2 - xs[i].f1 - 1) (by omega) (by omega), wrap_small (n := a + (xs[i].f2 - xs[i].f1 - 1)) (by omega) (by omega), show a + (xs[i].f2 - xs[i].f1 - 1) = a + xs[i].f2 - xs[i].f1 - 1 by omega]
      exact idleI_go xs hx hsm d (i + 1) _ (by omega) (by omega) (by omega)
    · exact idleI_go xs hx hsm d (i + 1) _ (by omega) (by omega) (by omega)
def idleOf (a0 : ByteArray) : Int := if (toldOf a0).2.2 = true then idl (lvs (toldOf a0).1) 0 else -1
theorem idleS_ev (a0 : ByteArray) (hs : a0.size ≤ 1048576) : Ev (fun k => spec_IdleOf.f k a0) (idleOf a0) := by
  obtain ⟨m, l, g, hm, hl⟩ := told_good a0
  have h1 := g.lvs_length
  have h2 := g.made
  unfold spec_IdleOf.f idleOf
  refine Ev.bind (l7Read_ev a0 hs) ?_
  dsimp only
  split
  · exact Ev.bind (lives_ev g (by omega)) (idleS_go _ (by omega) (g.small hl) _ 0 0 (Nat.zero_add _) (by omega) (by omega))
  · exact Ev.now _
theorem idleI_ev (a0 : ByteArray) (hs : a0.size ≤ 1048576) : Ev (fun k => impl_IdleOf.f k a0) (idleOf a0) := by
  obtain ⟨m, l, g, hm, hl⟩ := told_good a0
  have h1 := g.lvs_length
  have h2 := g.made
  unfold impl_IdleOf.f idleOf
  simp only [ofLives_told a0 hs, Option.bind_some]
  split
  · simp only [if_pos]
    exact idleI_go _ (by omega) (g.small hl) _ 0 0 (Nat.zero_add _) (by omega) (by omega)
  · simp only [Bool.false_eq_true, if_false]
    exact Ev.now _
end Go.Proofs.YtlikgaohcnbocaaDoor.Pr
namespace Go.Proofs.YtlikgaohcnbocaaDoor.Pure
open Go.RowKit Go.Proofs.YtlikgaohcnbocaaDoorW.PrintWords Go.Proofs.YtlikgaohcnbocaaDoorW.PrintLast Go.Proofs.YtlikgaohcnbocaaDoorW.PrintMore
open Go.Proofs.YtlikgaohcnbocaaDoor.Pr
theorem FnExactIdleOf : laws_FnExactIdleOf.Pure := by
  intro a0 _
  by_cases hs : (a0.size : Int) > 1048576
  · exact ⟨0, by unfold laws_FnExactIdleOf.f; rw [if_pos hs]⟩
  · refine Ev.rounds ?_
    unfold laws_FnExactIdleOf.f
    simp only [if_neg hs]
    refine Ev.bind (idleS_ev a0 (by omega)) (Ev.bind (idleI_ev a0 (by omega)) ?_)
    simp only [if_true]
    exact Ev.now _
end Go.Proofs.YtlikgaohcnbocaaDoor.Pure
