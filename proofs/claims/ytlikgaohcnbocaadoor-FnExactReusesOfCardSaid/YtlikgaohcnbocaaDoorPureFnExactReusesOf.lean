/- FnExactReusesOf: the plain law. -/
import Derived.Test.YtlikgaohcnbocaaDoorPFb
import Derived.Test.YtlikgaohcnbocaaDoorQ7
namespace Go.Proofs.YtlikgaohcnbocaaDoor.Pr
open Go.RowKit Go.Proofs.YtlikgaohcnbocaaDoorW.PrintWords Go.Proofs.YtlikgaohcnbocaaDoorW.PrintLast Go.Proofs.YtlikgaohcnbocaaDoorW.PrintMore
theorem told_bad {a0 : ByteArray} (h : (toldOf a0).2.2 = false) : toldOf a0 = ([], 0, false) := by
  unfold toldOf at h ⊢
  split at h
  · cases h
  · rename_i hh
    rw [if_neg hh]
    split at h
    · rfl
    · cases h
/-! reused -/
def reu : Bool → List S62 → List Int
  | _, [] => []
  | p, e :: r => if p = true ∧ e.f0.toList = [43] then e.f1 :: reu (e.f0.toList == [45]) r else reu (e.f0.toList == [45]) r
theorem reu_length : ∀ (p : Bool) (o : List S62), (reu p o).length ≤ o.length
  | _, [] => by simp [reu]
  | p, e :: r => by
    have := reu_length (e.f0.toList == [45]) r
    rw [reu]
    split <;> simp <;> omega
def prevOf (o : List S62) (i : Nat) : Bool := decide (0 < i) && ((rd_T62 o ((i : Int) - 1)).f0.toList == [45])
theorem prev_next {o : List S62} {i : Nat} {e : S62} (h : o[i]? = some e) : prevOf o (i + 1) = (e.f0.toList == [45]) := by
  unfold prevOf
  rw [show ((i + 1 : Nat) : Int) - 1 = (i : Int) by omega, rd62_at h]
  simp
theorem conv_iff {e : S62} (h : e.f0.toList = [43] ∨ e.f0.toList = [46] ∨ e.f0.toList = [45]) : ((conv e).f0 = 43 ↔ e.f0.toList = [43]) ∧ ((conv e).f0 = 45 ↔ e.f0.toList = [45]) := by
  rcases h with h | h | h
  · rw [conv_43 h, h]; decide
  · rw [conv_46 h, h]; decide
  · rw [conv_45 h, h]; decide
theorem reuS_go {o : List S62} (hsg : ∀ e ∈ o, e.f0.toList = [43] ∨ e.f0.toList = [46] ∨ e.f0.toList = [45]) (hl : o.length ≤ 1000000) (b : Bool) : ∀ (d i : Nat) (acc : List Int), i + d = o.length → acc.length ≤ i →
    Ev (fun k => spec_ReusesOf.l0 k acc (o.map conv) b (o.map conv) ((o.map conv).length : Int) (i : Int)) (acc ++ reu (prevOf o i) (o.drop i), b)
  | 0, i, acc, hi, ha => by
    refine Ev.step (f := fun _ => some (acc ++ reu (prevOf o i) (o.drop i), b)) (fun k => ?_) (Ev.now _)
    show spec_ReusesOf.l0 (k + 1) _ _ _ _ _ _ = _
    rw [spec_ReusesOf.l0, if_neg (by simp; omega), List.drop_of_length_le (by omega), reu, List.append_nil]
  | d + 1, i, acc, hi, ha => by
    have hlt : i < o.length := by omega
    have hg : o[i]? = some o[i] := List.getElem?_eq_getElem hlt
    have hs := conv_iff (hsg _ (List.getElem_mem hlt))
    have ih1 := reuS_go hsg hl b d (i + 1) acc (by omega) (by omega)
    have ih2 := reuS_go hsg hl b d (i + 1) (acc ++ [o[i].f1]) (by omega) (by simp; omega)
    rw [prev_next hg] at ih1 ih2
    rw [List.append_assoc] at ih2
    rw [List.drop_eq_getElem_cons hlt, reu]
    have key : ∀ k, spec_ReusesOf.l0 (k + 1) acc (o.map conv) b (o.map conv) ((o.map conv).length : Int) (i : Int) = if prevOf o i = true ∧ o[i].f0.toList = [43] then spec_ReusesOf.l0 k (acc ++ [o[i].f1]) (o.map conv) b (o.map conv) ((o.map conv).length : Int) ((i + 1 : Nat) : Int) else spec_ReusesOf.l0 k acc (o.map conv) b (o.map conv) ((o.map conv).length : Int) ((i + 1 : Nat) : Int) := by
      intro k
      rw [spec_ReusesOf.l0, if_pos (by simp; omega), if_pos (by omega), if_pos (by simp; omega), rd59_at hg, wrap_up (by omega), conv_f1]
      by_cases h0 : 0 < i
      · have hg' : o[i - 1]? = some o[i - 1] := List.getElem?_eq_getElem (by omega)
        have hs' := conv_iff (hsg _ (List.getElem_mem (show i - 1 < o.length by omega)))
        have hp : prevOf o i = (o[i - 1].f0.toList == [45]) := by
          have := prev_next hg'
          rwa [show i - 1 + 1 = i by omega] at this
        rw [if_pos (show (i : Int) > 0 by omega), wrap_small (n := (i : Int) - 1) (by omega) (by omega), show (i : Int) - 1 = ((i - 1 : Nat) : Int) by omega, rd59_at hg', hp, if_pos (show (0 : Int) ≤ ((i - 1 : Nat) : Int) by omega), if_pos (show ((i - 1 : Nat) : Int) < ((o.map conv).length : Int) by simp; omega), if_pos (show acc.length < 17592186044416 by omega)]
        by_cases h1 : o[i].f0.toList = [43]
        · rw [if_pos (hs.1.2 h1)]
          by_cases h2 : o[i - 1].f0.toList = [45]
          · rw [if_pos (hs'.2.2 h2), if_pos ⟨beq_iff_eq.2 h2, h1⟩]
          · rw [if_neg (fun h => h2 (hs'.2.1 h)), if_neg (fun h => h2 (beq_iff_eq.1 h.1))]
        · rw [if_neg (fun h => h1 (hs.1.1 h)), if_neg (fun h => h1 h.2)]
      · obtain rfl : i = 0 := by omega
        rw [if_neg (show ¬ (((0 : Nat) : Int) > 0) by omega), if_neg (fun h => by simp [prevOf] at h)]
    refine Ev.step key ?_
    split
    · exact ih2
    · exact ih1
theorem reuI_go {o : List S62} (hl : o.length ≤ 1000000) : ∀ (d i : Nat) (acc : List Int), i + d = o.length → acc.length ≤ i →
    Ev (fun k => impl_ReusesOf.l0 k o acc o (o.length : Int) (i : Int)) (acc ++ reu (prevOf o i) (o.drop i), true)
  | 0, i, acc, hi, ha => by
    refine Ev.step (f := fun _ => some (acc ++ reu (prevOf o i) (o.drop i), true)) (fun k => ?_) (Ev.now _)
    show impl_ReusesOf.l0 (k + 1) _ _ _ _ _ = _
    rw [impl_ReusesOf.l0, if_neg (by omega), List.drop_of_length_le (by omega), reu, List.append_nil]
  | d + 1, i, acc, hi, ha => by
    have hlt : i < o.length := by omega
    have hg : o[i]? = some o[i] := List.getElem?_eq_getElem hlt
    have ih1 := reuI_go hl d (i + 1) acc (by omega) (by omega)
    have ih2 := reuI_go hl d (i + 1) (acc ++ [o[i].f1]) (by omega) (by simp; omega)
    rw [prev_next hg] at ih1 ih2
    rw [List.append_assoc] at ih2
    rw [List.drop_eq_getElem_cons hlt, reu]
    have key : ∀ k, impl_ReusesOf.l0 (k + 1) o acc o (o.length : Int) (i : Int) = if prevOf o i = true ∧ o[i].f0.toList = [43] then impl_ReusesOf.l0 k o (acc ++ [o[i].f1]) o (o.length : Int) ((i + 1 : Nat) : Int) else impl_ReusesOf.l0 k o acc o (o.length : Int) ((i + 1 : Nat) : Int) := by
      intro k
      rw [impl_ReusesOf.l0, if_pos (by omega), if_pos (by omega), if_pos (by omega), rd62_at hg, wrap_up (by omega)]
      by_cases h0 : 0 < i
      · have hg' : o[i - 1]? = some o[i - 1] := List.getElem?_eq_getElem (by omega)
        have hp : prevOf o i = (o[i - 1].f0.toList == [45]) := by
          have := prev_next hg'
          rwa [show i - 1 + 1 = i by omega] at this
        rw [if_pos (show (i : Int) > 0 by omega), wrap_small (n := (i : Int) - 1) (by omega) (by omega), show (i : Int) - 1 = ((i - 1 : Nat) : Int) by omega, rd62_at hg', hp, if_pos (show (0 : Int) ≤ ((i - 1 : Nat) : Int) by omega), if_pos (show ((i - 1 : Nat) : Int) < (o.length : Int) by omega), if_pos (show acc.length < 17592186044416 by omega)]
        by_cases h1 : o[i].f0.toList = [43]
        · rw [if_pos h1]
          by_cases h2 : o[i - 1].f0.toList = [45]
          · rw [if_pos h2, if_pos ⟨beq_iff_eq.2 h2, h1⟩]
          · rw [if_neg h2, if_neg (fun h => h2 (beq_iff_eq.1 h.1))]
        · rw [if_neg h1, if_neg (fun h => h1 h.2)]
      · obtain rfl : i = 0 := by omega
        rw [if_neg (show ¬ (((0 : Nat) : Int) > 0) by omega), if_neg (show ¬ (prevOf o 0 = true ∧ o[0].f0.toList = [43]) from fun h => by simp [prevOf] at h)]
        split <;> rfl
    refine Ev.step key ?_
    split
    · exact ih2
    · exact ih1
def reusedOf (a0 : ByteArray) : List Int × Bool := (reu false (toldOf a0).1, (toldOf a0).2.2)
theorem reusedOf_len (a0 : ByteArray) : (reusedOf a0).1.length ≤ 600 := by
  obtain ⟨m, l, g, hm, hl⟩ := told_good a0
  have := reu_length false (toldOf a0).1
  unfold reusedOf
  dsimp only
  omega
theorem reuS_ev (a0 : ByteArray) (hs : a0.size ≤ 1048576) : Ev (fun k => spec_ReusesOf.f k a0) (reusedOf a0) := by
  obtain ⟨m, l, g, hm, hl⟩ := told_good a0
  unfold spec_ReusesOf.f
  refine Ev.bind (l7Read_ev a0 hs) ?_
  have := reuS_go g.signs (by omega) (toldOf a0).2.2 _ 0 [] (Nat.zero_add _) (by simp)
  rw [List.drop_zero, List.nil_append] at this
  exact this
theorem reuI_ev (a0 : ByteArray) (hs : a0.size ≤ 1048576) : Ev (fun k => impl_ReusesOf.f k a0) (reusedOf a0) := by
  obtain ⟨m, l, g, hm, hl⟩ := told_good a0
  unfold impl_ReusesOf.f
  simp only [told_f a0 hs, Option.bind_some]
  cases hb : (toldOf a0).2.2 with
  | true =>
    have := reuI_go (o := (toldOf a0).1) (by omega) _ 0 [] (Nat.zero_add _) (by simp)
    rw [List.drop_zero, List.nil_append] at this
    simp only [if_true]
    unfold reusedOf
    rw [hb]
    exact this
  | false =>
    simp only [Bool.false_eq_true, if_false]
    unfold reusedOf
    rw [told_bad hb]
    exact Ev.now _
end Go.Proofs.YtlikgaohcnbocaaDoor.Pr
namespace Go.Proofs.YtlikgaohcnbocaaDoor.Pure
open Go.RowKit Go.Proofs.YtlikgaohcnbocaaDoorW.PrintWords Go.Proofs.YtlikgaohcnbocaaDoorW.PrintLast Go.Proofs.YtlikgaohcnbocaaDoorW.PrintMore
open Go.Proofs.YtlikgaohcnbocaaDoor.Pr
theorem FnExactReusesOf : laws_FnExactReusesOf.Pure := by
  intro a0 _
  by_cases hs : (a0.size : Int) > 1048576
  · exact ⟨0, by unfold laws_FnExactReusesOf.f; rw [if_pos hs]⟩
  · have h1 := reuS_ev a0 (by omega)
    have h2 := reuI_ev a0 (by omega)
    have hlen := reusedOf_len a0
    generalize reusedOf a0 = r at h1 h2 hlen
    refine Ev.rounds ?_
    unfold laws_FnExactReusesOf.f
    simp only [if_neg hs]
    refine Ev.bind h1 (Ev.bind h2 (Ev.bind (eqInt_ev r.1 (by omega)) ?_))
    simp only [if_true, bne_self_eq_false]
    refine Ev.step (fun k => laws_FnExactReusesOf.j0.eq_2 (k := k) ..) ?_
    simp only [Bool.false_eq_true, if_false]
    refine Ev.bind (mark_ev r.1 (by omega)) (Ev.bind (held_ev r.1.length (by omega)) ?_)
    simp only [if_neg (show ¬ (((r.1.length + 1 : Nat) : Int) < 0) by omega), if_true]
    refine Ev.bind h2 (Ev.bind (eqInt_ev r.1 (by omega)) ?_)
    simp only [if_true, bne_self_eq_false]
    refine Ev.step (fun k => laws_FnExactReusesOf.j1.eq_2 (k := k) ..) ?_
    simp only [Bool.false_eq_true, if_false]
    refine Ev.bind (held_ev r.1.length (by omega)) ?_
    simp only [if_neg (show ¬ (((r.1.length + 1 : Nat) : Int) < 0) by omega), if_true]
    exact Ev.now _
end Go.Proofs.YtlikgaohcnbocaaDoor.Pure
