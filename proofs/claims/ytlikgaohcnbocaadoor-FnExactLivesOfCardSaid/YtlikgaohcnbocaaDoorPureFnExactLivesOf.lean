/- FnExactLivesOf: the plain law. -/
import Derived.Test.YtlikgaohcnbocaaDoorPFc
import Derived.Test.YtlikgaohcnbocaaDoorQ12
namespace Go.Proofs.YtlikgaohcnbocaaDoor.Pr
open Go.RowKit Go.Proofs.YtlikgaohcnbocaaDoorW.PrintWords Go.Proofs.YtlikgaohcnbocaaDoorW.PrintLast Go.Proofs.YtlikgaohcnbocaaDoorW.PrintMore
/-! lists of lives: equal, marked, held -/
theorem eqLife_go (xs : List S48) (hx : xs.length ≤ 1000000) : ∀ (d i : Nat), i + d = xs.length → Ev (fun k => laws_eqLifeS.l0 k xs xs (i : Int)) true
  | 0, i, hi => by
    refine Ev.step (f := fun _ => some true) (fun k => ?_) (Ev.now _)
    show laws_eqLifeS.l0 (k + 1) _ _ _ = _
    rw [laws_eqLifeS.l0, if_neg (by omega)]
  | d + 1, i, hi => by
    refine Ev.step (fun k => ?_) (eqLife_go xs hx d (i + 1) (by omega))
    show laws_eqLifeS.l0 (k + 1) _ _ _ = _
    rw [laws_eqLifeS.l0, if_pos (by omega), if_pos (by omega), if_pos (by omega), wrap_up (by omega)]
    unfold laws_eqLife.f
    rw [if_pos rfl, if_pos rfl, if_pos rfl, Option.bind_some, if_pos rfl]
theorem eqLife_ev (xs : List S48) (hx : xs.length ≤ 1000000) : Ev (fun k => laws_eqLifeS.f k xs xs) true := by
  refine Ev.congr (fun k => ?_) (eqLife_go xs hx xs.length 0 (by omega))
  show laws_eqLifeS.f k xs xs = _
  unfold laws_eqLifeS.f
  rw [if_pos rfl]
  rfl
def upto3 : Nat → List S48
  | 0 => []
  | n + 1 => upto3 n ++ [⟨((3 * n + 1 : Nat) : Int), ((3 * n + 2 : Nat) : Int), ((3 * n + 3 : Nat) : Int)⟩]
theorem upto3_length : ∀ n, (upto3 n).length = n
  | 0 => rfl
  | n + 1 => by rw [upto3, List.length_append, upto3_length n]; rfl
theorem upto3_get : ∀ (n i : Nat) (h : i < (upto3 n).length), (upto3 n)[i] = ⟨((3 * i + 1 : Nat) : Int), ((3 * i + 2 : Nat) : Int), ((3 * i + 3 : Nat) : Int)⟩
  | 0, i, h => by simp [upto3] at h
  | n + 1, i, h => by
    rw [upto3_length] at h
    simp only [upto3]
    by_cases hi : i < n
    · rw [List.getElem_append_left (by rw [upto3_length]; exact hi), upto3_get n i]
    · obtain rfl : i = n := by omega
      rw [List.getElem_append_right (by rw [upto3_length]; omega)]
      simp [upto3_length]
theorem rd48_set {xs : List S48} {i : Nat} {L : S48} (h : i < xs.length) : rd_T48 (xs.set i L) (i : Int) = L := by
  rw [rd48_at (by rw [List.length_set]; exact h), List.getElem_set_self]
theorem markLife_go (xs : List S48) (hx : xs.length ≤ 1000000) : ∀ (d i : Nat), i + d = xs.length → Ev (fun k => laws_markLifeS.l0 k (upto3 i ++ xs.drop i) ((3 * i + 1 : Nat) : Int) (i : Int)) (((3 * xs.length + 1 : Nat) : Int), upto3 xs.length)
  | 0, i, hi => by
    obtain rfl : i = xs.length := by omega
    refine Ev.step (f := fun _ => some (((3 * xs.length + 1 : Nat) : Int), upto3 xs.length)) (fun k => ?_) (Ev.now _)
    show laws_markLifeS.l0 (k + 1) _ _ _ = _
    rw [laws_markLifeS.l0, List.drop_length, List.append_nil, upto3_length, if_neg (by omega)]
  | d + 1, i, hi => by
    have hlt : i < xs.length := by omega
    have hll : (upto3 i ++ xs.drop i).length = xs.length := by rw [List.length_append, upto3_length, List.length_drop]; omega
    refine Ev.step (fun k => ?_) (markLife_go xs hx d (i + 1) (by omega))
    show laws_markLifeS.l0 (k + 1) _ _ _ = _
    rw [laws_markLifeS.l0, if_pos (by omega), if_pos (by omega)]
    simp only [Option.bind_some, Int.toNat_natCast]
    have hset : ∀ L : S48, rd_T48 ((upto3 i ++ xs.drop i).set i L) (i : Int) = L := fun L => rd48_set (by rw [hll]; exact hlt)
    simp only [hset, List.set_set]
    rw [wrap_up (i := 3 * i + 1) (by omega), wrap_up (i := 3 * i + 1 + 1) (by omega), wrap_up (i := 3 * i + 1 + 1 + 1) (by omega), wrap_up (by omega)]
    congr 1
    rw [List.set_append_right _ _ (by rw [upto3_length]; omega), upto3_length, Nat.sub_self, List.drop_eq_getElem_cons hlt, List.set_cons_zero, upto3, List.append_assoc]
    rfl
theorem markLife_ev (xs : List S48) (hx : xs.length ≤ 1000000) : Ev (fun k => laws_markLifeS.f k xs 1) (((3 * xs.length + 1 : Nat) : Int), upto3 xs.length) :=
  markLife_go xs hx xs.length 0 (by omega)
theorem heldLife_go (n : Nat) (hx : n ≤ 1000000) : ∀ (d i : Nat), i + d = n → Ev (fun k => laws_heldLifeS.l0 k (upto3 n) ((3 * i + 1 : Nat) : Int) (i : Int)) ((3 * n + 1 : Nat) : Int)
  | 0, i, hi => by
    obtain rfl : i = n := by omega
    refine Ev.step (f := fun _ => some ((3 * i + 1 : Nat) : Int)) (fun k => ?_) (Ev.now _)
    show laws_heldLifeS.l0 (k + 1) _ _ _ = _
    rw [laws_heldLifeS.l0, upto3_length, if_neg (by omega)]
  | d + 1, i, hi => by
    refine Ev.step (fun k => ?_) (heldLife_go n hx d (i + 1) (by omega))
    show laws_heldLifeS.l0 (k + 1) _ _ _ = _
    rw [laws_heldLifeS.l0, if_pos (by rw [upto3_length]; omega), if_pos (by omega), rd48_at (by rw [upto3_length]; omega), upto3_get, wrap_up (i := 3 * i + 1) (by omega), wrap_up (i := 3 * i + 1 + 1) (by omega), wrap_up (i := 3 * i + 1 + 1 + 1) (by omega), wrap_up (by omega), if_pos rfl, if_pos rfl, if_pos rfl]
    rfl
theorem heldLife_ev (n : Nat) (hx : n ≤ 1000000) : Ev (fun k => laws_heldLifeS.f k (upto3 n) 1) ((3 * n + 1 : Nat) : Int) :=
  heldLife_go n hx n 0 (by omega)
theorem ofLives_ev (a0 : ByteArray) (hs : a0.size ≤ 1048576) : Ev (fun k => spec_LivesOf.f k a0) (if (toldOf a0).2.2 = true then (lvs (toldOf a0).1, true) else ([], false)) := by
  obtain ⟨m, l, g, hm, hl⟩ := told_good a0
  unfold spec_LivesOf.f
  refine Ev.bind (l7Read_ev a0 hs) ?_
  dsimp only
  split
  · refine Ev.bind (lives_ev g (by omega)) (Ev.now _)
  · exact Ev.now _
theorem ofLives_len (a0 : ByteArray) : (if (toldOf a0).2.2 = true then (lvs (toldOf a0).1, true) else (([], false) : List S48 × Bool)).1.length ≤ 600 := by
  obtain ⟨m, l, g, hm, hl⟩ := told_good a0
  have := g.lvs_length
  have := g.made
  split
  · dsimp only; omega
  · simp
end Go.Proofs.YtlikgaohcnbocaaDoor.Pr
namespace Go.Proofs.YtlikgaohcnbocaaDoor.Pure
open Go.RowKit Go.Proofs.YtlikgaohcnbocaaDoorW.PrintWords Go.Proofs.YtlikgaohcnbocaaDoorW.PrintLast Go.Proofs.YtlikgaohcnbocaaDoorW.PrintMore
open Go.Proofs.YtlikgaohcnbocaaDoor.Pr
theorem FnExactLivesOf : laws_FnExactLivesOf.Pure := by
  intro a0 _
  by_cases hs : (a0.size : Int) > 1048576
  · exact ⟨0, by unfold laws_FnExactLivesOf.f; rw [if_pos hs]⟩
  · have h1 := ofLives_ev a0 (by omega)
    have h2 := ofLives_told a0 (by omega)
    have hlen := ofLives_len a0
    generalize (if (toldOf a0).2.2 = true then (lvs (toldOf a0).1, true) else (([], false) : List S48 × Bool)) = r at h1 h2 hlen
    refine Ev.rounds ?_
    unfold laws_FnExactLivesOf.f
    simp only [if_neg hs]
    refine Ev.bind h1 ?_
    simp only [h2, Option.bind_some]
    refine Ev.bind (eqLife_ev r.1 (by omega)) ?_
    simp only [if_true, bne_self_eq_false]
    refine Ev.step (fun k => laws_FnExactLivesOf.j0.eq_2 (k := k) ..) ?_
    simp only [Bool.false_eq_true, if_false]
    refine Ev.bind (markLife_ev r.1 (by omega)) (Ev.bind (heldLife_ev r.1.length (by omega)) ?_)
    simp only [if_neg (show ¬ (((3 * r.1.length + 1 : Nat) : Int) < 0) by omega), if_true, h2, Option.bind_some]
    refine Ev.bind (eqLife_ev r.1 (by omega)) ?_
    simp only [if_true, bne_self_eq_false]
    refine Ev.step (fun k => laws_FnExactLivesOf.j1.eq_2 (k := k) ..) ?_
    simp only [Bool.false_eq_true, if_false]
    refine Ev.bind (heldLife_ev r.1.length (by omega)) ?_
    simp only [if_neg (show ¬ (((3 * r.1.length + 1 : Nat) : Int) < 0) by omega), if_true]
    exact Ev.now _
end Go.Proofs.YtlikgaohcnbocaaDoor.Pure
