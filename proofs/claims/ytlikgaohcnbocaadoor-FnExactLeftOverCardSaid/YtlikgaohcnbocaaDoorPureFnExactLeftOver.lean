/- FnExactLeftOver: the plain law. -/
import Derived.Test.YtlikgaohcnbocaaDoorPFc
import Derived.Test.YtlikgaohcnbocaaDoorQ10
namespace Go.Proofs.YtlikgaohcnbocaaDoor.Pr
open Go.RowKit Go.Proofs.YtlikgaohcnbocaaDoorW.PrintWords Go.Proofs.YtlikgaohcnbocaaDoorW.PrintLast Go.Proofs.YtlikgaohcnbocaaDoorW.PrintMore
theorem told_bad {a0 : ByteArray} (h : (toldOf a0).2.2 = false) : toldOf a0 = ([], 0, false) := by
  unfold toldOf at h ⊢
  split at h
  · cases h
  · rename_i hh
    rw [if_neg hh]
    split at h
    · rfl
    · cases h
/-! left over -/
def lft : List S48 → Int → List Int
  | [], _ => []
  | L :: r, i => if L.f2 < 0 then (i + 1) :: lft r (i + 1) else lft r (i + 1)
theorem lft_length : ∀ (xs : List S48) (i : Int), (lft xs i).length ≤ xs.length
  | [], i => by simp [lft]
  | a :: r, i => by
    rw [lft]
    have := lft_length r (i + 1)
    split <;> simp <;> omega
theorem leftS_go (xs : List S48) (b : Bool) (hx : xs.length ≤ 1000000) : ∀ (d i : Nat) (acc : List Int), i + d = xs.length → acc.length ≤ i →
    Ev (fun k => spec_LeftOver.l0 k acc b xs (xs.length : Int) (i : Int)) (acc ++ lft (xs.drop i) i, b)
  | 0, i, acc, hi, ha => by
    refine Ev.step (f := fun _ => some (acc ++ lft (xs.drop i) i, b)) (fun k => ?_) (Ev.now _)
    show spec_LeftOver.l0 (k + 1) _ _ _ _ _ = _
    rw [spec_LeftOver.l0, if_neg (by omega), List.drop_of_length_le (by omega), lft, List.append_nil]
  | d + 1, i, acc, hi, ha => by
    have hlt : i < xs.length := by omega
    have ih1 := leftS_go xs b hx d (i + 1) acc (by omega) (by omega)
    have ih2 := leftS_go xs b hx d (i + 1) (acc ++ [((i + 1 : Nat) : Int)]) (by omega) (by simp; omega)
    rw [List.drop_eq_getElem_cons hlt, lft]
    by_cases h : xs[i].f2 < 0
    · rw [if_pos h]
      rw [List.append_assoc] at ih2
      refine Ev.step (fun k => ?_) ih2
      show spec_LeftOver.l0 (k + 1) _ _ _ _ _ = _
      rw [spec_LeftOver.l0, if_pos (by omega), if_pos (by omega), if_pos (by omega), rd48_at hlt, wrap_up (by omega), if_pos h, if_pos (by omega)]
    · rw [if_neg h]
      refine Ev.step (fun k => ?_) ih1
      show spec_LeftOver.l0 (k + 1) _ _ _ _ _ = _
      rw [spec_LeftOver.l0, if_pos (by omega), if_pos (by omega), if_pos (by omega), rd48_at hlt, wrap_up (by omega), if_neg h]
theorem leftI_go (xs : List S48) (hx : xs.length ≤ 1000000) : ∀ (d i : Nat) (acc : List Int), i + d = xs.length → acc.length ≤ i →
    Ev (fun k => impl_LeftOver.l0 k acc xs (xs.length : Int) (i : Int)) (acc ++ lft (xs.drop i) i, true)
  | 0, i, acc, hi, ha => by
    refine Ev.step (f := fun _ => some (acc ++ lft (xs.drop i) i, true)) (fun k => ?_) (Ev.now _)
    show impl_LeftOver.l0 (k + 1) _ _ _ _ = _
    rw [impl_LeftOver.l0, if_neg (by omega), List.drop_of_length_le (by omega), lft, List.append_nil]
  | d + 1, i, acc, hi, ha => by
    have hlt : i < xs.length := by omega
    have ih1 := leftI_go xs hx d (i + 1) acc (by omega) (by omega)
    have ih2 := leftI_go xs hx d (i + 1) (acc ++ [((i + 1 : Nat) : Int)]) (by omega) (by simp; omega)
    rw [List.drop_eq_getElem_cons hlt, lft]
    by_cases h : xs[i].f2 < 0
    · rw [if_pos h]
      rw [List.append_assoc] at ih2
      refine Ev.step (fun k => ?_) ih2
      show impl_LeftOver.l0 (k + 1) _ _ _ _ = _
      rw [impl_LeftOver.l0, if_pos (by omega), if_pos (by omega), if_pos (by omega), rd48_at hlt, wrap_up (by omega), if_pos h, if_pos (by omega)]
    · rw [if_neg h]
      refine Ev.step (fun k => ?_) ih1
      show impl_LeftOver.l0 (k + 1) _ _ _ _ = _
      rw [impl_LeftOver.l0, if_pos (by omega), if_pos (by omega), if_pos (by omega), rd48_at hlt, wrap_up (by omega), if_neg h]
def overOf (a0 : ByteArray) : List Int × Bool := if (toldOf a0).2.2 = true then (lft (lvs (toldOf a0).1) 0, true) else ([], false)
theorem overOf_len (a0 : ByteArray) : (overOf a0).1.length ≤ 600 := by
  obtain ⟨m, l, g, hm, hl⟩ := told_good a0
  have h1 := g.lvs_length
  have h2 := g.made
  have h3 := lft_length (lvs (toldOf a0).1) 0
  unfold overOf
  split
  · dsimp only; omega
  · simp
theorem leftS_ev (a0 : ByteArray) (hs : a0.size ≤ 1048576) : Ev (fun k => spec_LeftOver.f k a0) (overOf a0) := by
  obtain ⟨m, l, g, hm, hl⟩ := told_good a0
  have h1 := g.lvs_length
  have h2 := g.made
  unfold spec_LeftOver.f
  refine Ev.bind (l7Read_ev a0 hs) ?_
  dsimp only
  refine Ev.bind (lives_ev g (by omega)) ?_
  have := leftS_go (lvs (toldOf a0).1) (toldOf a0).2.2 (by omega) _ 0 [] (Nat.zero_add _) (by simp)
  rw [List.drop_zero, List.nil_append] at this
  have e : overOf a0 = (lft (lvs (toldOf a0).1) 0, (toldOf a0).2.2) := by
    unfold overOf
    cases hb : (toldOf a0).2.2 with
    | true => rfl
    | false => rw [told_bad hb]; rfl
  rw [e]
  exact this
theorem leftI_ev (a0 : ByteArray) (hs : a0.size ≤ 1048576) : Ev (fun k => impl_LeftOver.f k a0) (overOf a0) := by
  obtain ⟨m, l, g, hm, hl⟩ := told_good a0
  have h1 := g.lvs_length
  have h2 := g.made
  unfold impl_LeftOver.f overOf
  simp only [ofLives_told a0 hs, Option.bind_some]
  split
  · rename_i hb
    simp only [if_pos]
    have := leftI_go (lvs (toldOf a0).1) (by omega) _ 0 [] (Nat.zero_add _) (by simp)
    rw [List.drop_zero, List.nil_append] at this
    exact this
  · simp only [Bool.false_eq_true, if_false]
    exact Ev.now _
end Go.Proofs.YtlikgaohcnbocaaDoor.Pr
namespace Go.Proofs.YtlikgaohcnbocaaDoor.Pure
open Go.RowKit Go.Proofs.YtlikgaohcnbocaaDoorW.PrintWords Go.Proofs.YtlikgaohcnbocaaDoorW.PrintLast Go.Proofs.YtlikgaohcnbocaaDoorW.PrintMore
open Go.Proofs.YtlikgaohcnbocaaDoor.Pr
theorem FnExactLeftOver : laws_FnExactLeftOver.Pure := by
  intro a0 _
  by_cases hs : (a0.size : Int) > 1048576
  · exact ⟨0, by unfold laws_FnExactLeftOver.f; rw [if_pos hs]⟩
  · have h1 := leftS_ev a0 (by omega)
    have h2 := leftI_ev a0 (by omega)
    have hlen := overOf_len a0
    generalize overOf a0 = r at h1 h2 hlen
    refine Ev.rounds ?_
    unfold laws_FnExactLeftOver.f
    simp only [if_neg hs]
    refine Ev.bind h1 (Ev.bind h2 (Ev.bind (eqInt_ev r.1 (by omega)) ?_))
    simp only [if_true, bne_self_eq_false]
    refine Ev.step (fun k => laws_FnExactLeftOver.j0.eq_2 (k := k) ..) ?_
    simp only [Bool.false_eq_true, if_false]
    refine Ev.bind (mark_ev r.1 (by omega)) (Ev.bind (held_ev r.1.length (by omega)) ?_)
    simp only [if_neg (show ¬ (((r.1.length + 1 : Nat) : Int) < 0) by omega), if_true]
    refine Ev.bind h2 (Ev.bind (eqInt_ev r.1 (by omega)) ?_)
    simp only [if_true, bne_self_eq_false]
    refine Ev.step (fun k => laws_FnExactLeftOver.j1.eq_2 (k := k) ..) ?_
    simp only [Bool.false_eq_true, if_false]
    refine Ev.bind (held_ev r.1.length (by omega)) ?_
    simp only [if_neg (show ¬ (((r.1.length + 1 : Nat) : Int) < 0) by omega), if_true]
    exact Ev.now _
end Go.Proofs.YtlikgaohcnbocaaDoor.Pure
