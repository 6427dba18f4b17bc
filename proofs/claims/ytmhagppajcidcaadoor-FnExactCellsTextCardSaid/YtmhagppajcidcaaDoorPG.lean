/- Decimal numbers and rows of them, in plain Lean. -/
import Derived.Test.YtmhagppajcidcaaDoorPB
import Derived.Test.YtmhagppajcidcaaDoorItoa
import Derived.Test.YtmhagppajcidcaaDoorQ42
import Derived.Test.YtmhagppajcidcaaDoorQ40
namespace Go.Proofs.YtmhagppajcidcaaDoor.Pr
open Go.RowKit Go.Proofs.YtmhagppajcidcaaDoorW.PrintWords Go.Proofs.YtmhagppajcidcaaDoorW.PrintLast Go.Proofs.YtmhagppajcidcaaDoorW.PrintMore
def bs (l : List UInt8) : ByteArray := ⟨l.toArray⟩
theorem bs_size (l : List UInt8) : (bs l).size = l.length := by unfold bs ByteArray.size; simp
theorem bs_append (x y : List UInt8) : bs x ++ bs y = bs (x ++ y) := Go.ByteArray.mk_append_mk x y
theorem bs_list (l : List UInt8) : (bs l).data.toList = l := by unfold bs; simp
theorem bs_toList (l : List UInt8) : (bs l).toList = l := by rw [Lib.toList_data, bs_list]
/-! decimal numbers -/
theorem digit_str (u : Nat) (h : u < 10) : strOfNums [(wrap64 (48 + (u : Int))) % 256] = bs [UInt8.ofNat (48 + u)] := by
  have e : (wrap64 (48 + (u : Int)) % 256).toNat = 48 + u := by rw [wrap_small (by omega) (by omega)]; omega
  unfold strOfNums
  simp only [List.map_cons, List.map_nil, e]
  rfl
theorem dec_l0 : ∀ (c u : Nat) (x : List UInt8), u < 10 ^ (c + 1) → x.length + c ≤ 100 → u ≤ 9223372036854775807 → Ev (fun k => spec_l13Dec.l0 k (u : Int) (bs x)) (bs (Lib.decDigits u ++ x)) := by
  intro c
  induction c with
  | zero =>
    intro u x hu hx h1
    refine Ev.step (fun k => spec_l13Dec.l0.eq_2 (k := k) ..) ?_
    simp only [if_neg (show ¬ ((u : Int) > 9) by omega), Option.bind_some]
    rw [digit_str u (by omega), Lib.decDigits, dif_pos (by omega)]
    simp only [bs_size, List.length_singleton, if_pos (show 1 + x.length ≤ 9223372036854775807 by omega), bs_append]
    exact Ev.now _
  | succ c ih =>
    intro u x hu hx h1
    by_cases h9 : u < 10
    · refine Ev.step (fun k => spec_l13Dec.l0.eq_2 (k := k) ..) ?_
      simp only [if_neg (show ¬ ((u : Int) > 9) by omega), Option.bind_some]
      rw [digit_str u (by omega), Lib.decDigits, dif_pos (by omega)]
      simp only [bs_size, List.length_singleton, if_pos (show 1 + x.length ≤ 9223372036854775807 by omega), bs_append]
      exact Ev.now _
    · refine Ev.step (fun k => spec_l13Dec.l0.eq_2 (k := k) ..) ?_
      have e1 : Int.tmod (u : Int) 10 = ((u % 10 : Nat) : Int) := by rw [Int.ofNat_tmod]; rfl
      have e2 : Int.tdiv (u : Int) 10 = ((u / 10 : Nat) : Int) := by rw [Int.ofNat_tdiv]; rfl
      simp only [if_pos (show ((u : Int) > 9) by omega), Option.bind_some, e1, e2]
      rw [digit_str (u % 10) (by omega), wrap_small (by omega) (by omega), Lib.decDigits, dif_neg h9]
      simp only [bs_size, List.length_singleton, if_pos (show 1 + x.length ≤ 9223372036854775807 by omega), bs_append]
      have := ih (u / 10) (UInt8.ofNat (48 + u % 10) :: x) (by rw [Nat.pow_succ] at hu; omega) (by simp; omega) (by omega)
      rw [List.append_assoc]
      exact this
theorem dec_pos (u : Nat) (h : u ≤ 9223372036854775807) : Ev (fun k => spec_l13Dec.f k (u : Int)) (bs (Lib.decDigits u)) := by
  have := dec_l0 19 u [] (by omega) (by simp) h
  rw [List.append_nil] at this
  refine Ev.step (fun k => spec_l13Dec.f.eq_2 (k := k) ..) ?_
  simp only [if_neg (show ¬ ((u : Int) < -9223372036854775807) by omega), if_neg (show ¬ ((u : Int) < 0) by omega)]
  exact this
theorem decDigits_len (u : Nat) (h : u ≤ 9223372036854775808) : (Lib.decDigits u).length ≤ 20 := by
  have gen : ∀ (c u : Nat), u < 10 ^ (c + 1) → (Lib.decDigits u).length ≤ c + 1 := by
    intro c
    induction c with
    | zero => intro u hu; rw [Lib.decDigits, dif_pos (by omega)]; simp
    | succ c ih =>
      intro u hu
      rw [Lib.decDigits]
      split
      · simp
      · have := ih (u / 10) (by rw [Nat.pow_succ] at hu; omega)
        simp
        omega
  exact gen 19 u (by omega)
theorem itoa_len (n : Int) (h1 : -9223372036854775808 ≤ n) (h2 : n ≤ 9223372036854775807) : (Lib.itoa n).length ≤ 21 := by
  unfold Lib.itoa
  split
  · have := decDigits_len n.natAbs (by omega)
    simp
    omega
  · have := decDigits_len n.toNat (by omega)
    omega
theorem decDigits_ne (u : Nat) : Lib.decDigits u ≠ [] := by
  rw [Lib.decDigits]
  split <;> simp
theorem itoa_some (n : Int) : Lib.itoa n ≠ [] := by
  unfold Lib.itoa
  split
  · simp
  · exact decDigits_ne _
theorem dec_least : Lib.decDigits 9223372036854775808 = [57, 50, 50, 51, 51, 55, 50, 48, 51, 54, 56, 53, 52, 55, 55, 53, 56, 48, 56] := by
  simp [Lib.decDigits]
theorem dec_ev (n : Int) (h1 : -9223372036854775808 ≤ n) (h2 : n ≤ 9223372036854775807) : Ev (fun k => spec_l13Dec.f k n) (bs (Lib.itoa n)) := by
  by_cases hn : n < 0
  · have hi : Lib.itoa n = 45 :: Lib.decDigits n.natAbs := by unfold Lib.itoa; rw [if_pos hn]
    by_cases hm : n < -9223372036854775807
    · obtain rfl : n = -9223372036854775808 := by omega
      refine Ev.step (fun k => spec_l13Dec.f.eq_2 (k := k) ..) ?_
      simp only [if_pos hm]
      rw [hi, show (-9223372036854775808 : Int).natAbs = 9223372036854775808 from rfl, dec_least]
      exact Ev.now _
    · have hp := dec_pos n.natAbs (by omega)
      have hl := decDigits_len n.natAbs (by omega)
      refine Ev.step (fun k => spec_l13Dec.f.eq_2 (k := k) ..) ?_
      simp only [if_neg hm, if_pos hn]
      rw [wrap_small (by omega) (by omega), show -n = ((n.natAbs : Nat) : Int) by omega]
      refine Ev.bind hp ?_
      simp only [bs_size, if_pos (show 1 + (Lib.decDigits n.natAbs).length ≤ 9223372036854775807 by omega)]
      rw [hi, show (⟨#[45]⟩ : ByteArray) = bs [45] from rfl, bs_append]
      exact Ev.now _
  · have hp := dec_pos n.toNat (by omega)
    have hi : Lib.itoa n = Lib.decDigits n.toNat := by unfold Lib.itoa; rw [if_neg hn]
    rw [hi]
    rw [show ((n.toNat : Nat) : Int) = n by omega] at hp
    exact hp
/-! pieces with a space between -/
def jn (ps : List (List UInt8)) : List UInt8 := Lib.join ps [32]
theorem jn_snoc {ps : List (List UInt8)} (h : ps ≠ []) (y : List UInt8) : jn (ps ++ [y]) = jn ps ++ [32] ++ y := by
  cases ps with
  | nil => exact absurd rfl h
  | cons p r =>
    unfold jn
    rw [List.cons_append, Lib.join_cons, Lib.join_cons]
    simp [Lib.joinTail]
theorem jn_one (y : List UInt8) : jn [y] = y := Lib.join_one y [32]
theorem lens_le {B : Nat} : ∀ (ps : List (List UInt8)), (∀ p ∈ ps, p.length ≤ B) → Lib.lens ps ≤ B * ps.length
  | [], _ => by simp [Lib.lens]
  | p :: r, h => by
    have h1 := lens_le r (fun q hq => h q (List.mem_cons_of_mem _ hq))
    have h2 := h p (by simp)
    simp only [Lib.lens, List.map_cons, List.sum_cons, List.length_cons, Nat.mul_add] at h1 ⊢
    omega
theorem jn_len {B : Nat} (ps : List (List UInt8)) (h : ∀ p ∈ ps, p.length ≤ B) : (jn ps).length ≤ (B + 1) * ps.length := by
  cases ps with
  | nil => simp [jn, Lib.join_nil]
  | cons p r =>
    have := lens_le (p :: r) h
    unfold jn
    rw [Lib.join_length, Nat.add_mul]
    simp only [List.length_cons, List.length_nil] at this ⊢
    omega
theorem jn_ne : ∀ (ps : List (List UInt8)), ps ≠ [] → (∀ p ∈ ps, p ≠ []) → jn ps ≠ [] := by
  intro ps hp h
  cases ps with
  | nil => exact absurd rfl hp
  | cons p r =>
    unfold jn
    rw [Lib.join_cons]
    have := h p (by simp)
    simp [this]
/-- the text of a row of pieces -/
def txt (ps : List (List UInt8)) : ByteArray := if ps = [] then ⟨#[45]⟩ else bs (jn ps)
theorem spaced_txt {B : Nat} (ps : List (List UInt8)) (h : ∀ p ∈ ps, p.length ≤ B) (hB : B ≤ 1000) (hl : ps.length ≤ 2000000) : impl_spaced.f (ps.map bs) = some (txt ps) := by
  unfold impl_spaced.f txt
  cases ps with
  | nil => rfl
  | cons p r =>
    have e : ((p :: r).map bs).map (·.data.toList) = p :: r := by
      rw [List.map_map]
      have : ((fun x : ByteArray => x.data.toList) ∘ bs) = id := by funext x; exact bs_list x
      rw [this, List.map_id]
    have hj := jn_len (B := B) (p :: r) h
    have hj2 : (B + 1) * (p :: r).length ≤ 1001 * 2000000 := Nat.mul_le_mul (by omega) hl
    rw [if_neg (by simp; omega), if_neg (by simp)]
    unfold strings_Join.f
    rw [e, show (⟨#[32]⟩ : ByteArray).data.toList = [32] from rfl, if_pos ⟨by simp at hl ⊢; omega, by show (jn (p :: r)).length ≤ _; omega⟩]
    rfl
theorem itoa_f (n : Int) (h1 : -9223372036854775808 ≤ n) (h2 : n ≤ 9223372036854775807) : strconv_Itoa.f n = some (bs (Lib.itoa n)) := by
  unfold strconv_Itoa.f
  rw [if_pos ⟨h1, h2⟩]
  rfl
/-- a number of 64 bits -/
def Num (n : Int) : Prop := -9223372036854775808 ≤ n ∧ n ≤ 9223372036854775807
theorem jn_take {ps : List (List UInt8)} {i : Nat} (h : i < ps.length) : jn (ps.take (i + 1)) = if i = 0 then ps[i] else jn (ps.take i) ++ [32] ++ ps[i] := by
  rw [List.take_succ_eq_append_getElem h]
  split
  · rename_i hi
    subst hi
    rw [List.take_zero, List.nil_append, jn_one]
  · rename_i hi
    exact jn_snoc (fun e => by have := congrArg List.length e; rw [List.length_take] at this; simp only [List.length_nil] at this; omega) _
end Go.Proofs.YtmhagppajcidcaaDoor.Pr
