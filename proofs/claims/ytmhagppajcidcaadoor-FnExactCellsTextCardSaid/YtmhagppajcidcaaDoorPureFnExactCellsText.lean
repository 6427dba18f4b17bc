/- FnExactCellsText: the plain law. -/
import Derived.Test.YtmhagppajcidcaaDoorPK
import Derived.Test.YtmhagppajcidcaaDoorPG
import Derived.Test.YtmhagppajcidcaaDoorQ9
namespace Go.Proofs.YtmhagppajcidcaaDoor.Pr
open Go.RowKit Go.Proofs.YtmhagppajcidcaaDoorW.PrintWords Go.Proofs.YtmhagppajcidcaaDoorW.PrintLast Go.Proofs.YtmhagppajcidcaaDoorW.PrintMore
theorem Ev.pos {α : Type} {c : Prop} [Decidable c] {f g : Nat → Option α} {r : α} (h : c) (k : Ev f r) : Ev (fun n => if c then f n else g n) r := by
  simpa only [if_pos h] using k
/-! cells written out -/
def rv (cs : List Int) (al : List Int) (c : Int) : List UInt8 := al.foldl (fun v n => if rd cs (n - 1) = c then Lib.itoa n else v) [46]
theorem rv_snoc (cs al : List Int) (n c : Int) : rv cs (al ++ [n]) c = if rd cs (n - 1) = c then Lib.itoa n else rv cs al c := by
  unfold rv
  rw [List.foldl_append]
  rfl
theorem rv_or (cs : List Int) (c : Int) (al : List Int) : rv cs al c = [46] ∨ ∃ n ∈ al, rv cs al c = Lib.itoa n := by
  unfold rv
  have gen : ∀ (al : List Int) (v : List UInt8), al.foldl (fun v n => if rd cs (n - 1) = c then Lib.itoa n else v) v = v ∨ ∃ n ∈ al, al.foldl (fun v n => if rd cs (n - 1) = c then Lib.itoa n else v) v = Lib.itoa n := by
    intro al
    induction al with
    | nil => intro v; exact .inl rfl
    | cons a r ih =>
      intro v
      simp only [List.foldl_cons]
      rcases ih (if rd cs (a - 1) = c then Lib.itoa a else v) with h | ⟨n, hn, h⟩
      · split at h
        · rename_i hc
          exact .inr ⟨a, by simp, by rw [if_pos hc]; exact h⟩
        · rename_i hc
          exact .inl (by rw [if_neg hc]; exact h)
      · exact .inr ⟨n, List.mem_cons_of_mem _ hn, h⟩
  exact gen al [46]
def rowP (cs al : List Int) (M : Nat) : List (List UInt8) := (List.range M).map fun (c : Nat) => rv cs al (c : Int)
theorem rowP_length (cs al : List Int) (M : Nat) : (rowP cs al M).length = M := by unfold rowP; simp
theorem rowP_get (cs al : List Int) {M c : Nat} (h : c < M) : (rowP cs al M)[c]'(by rw [rowP_length]; exact h) = rv cs al (c : Int) := by unfold rowP; simp
theorem rowP_ok {cs al : List Int} {M : Nat} (h : ∀ n ∈ al, 1 ≤ n ∧ n ≤ 1000) : ∀ p ∈ rowP cs al M, p.length ≤ 21 ∧ p ≠ [] := by
  intro p hp
  obtain ⟨c, _, rfl⟩ := List.mem_map.1 hp
  rcases rv_or cs (c : Int) al with e | ⟨n, hn, e⟩
  · rw [e]; decide
  · rw [e]
    have := h n hn
    exact ⟨itoa_len n (by omega) (by omega), itoa_some n⟩
/-! rows with a sign between -/
theorem join_take {ps : List (List UInt8)} {sep : List UInt8} {i : Nat} (h : i < ps.length) : Lib.join (ps.take (i + 1)) sep = if i = 0 then ps[i] else Lib.join (ps.take i) sep ++ sep ++ ps[i] := by
  rw [List.take_succ_eq_append_getElem h]
  split
  · rename_i hi
    subst hi
    rw [List.take_zero, List.nil_append, Lib.join_one]
  · rename_i hi
    obtain ⟨p, r, hr⟩ : ∃ p r, ps.take i = p :: r := List.exists_cons_of_ne_nil (fun e => by have := congrArg List.length e; rw [List.length_take] at this; simp only [List.length_nil] at this; omega)
    rw [hr, List.cons_append, Lib.join_cons, Lib.join_cons]
    simp [Lib.joinTail]
theorem join_len {B : Nat} {sep : List UInt8} (hs : sep.length = 1) (ps : List (List UInt8)) (h : ∀ p ∈ ps, p.length ≤ B) : (Lib.join ps sep).length ≤ (B + 1) * ps.length := by
  cases ps with
  | nil => simp [Lib.join_nil]
  | cons p r =>
    have := lens_le (p :: r) h
    rw [Lib.join_length, Nat.add_mul, hs]
    simp only [List.length_cons] at this ⊢
    omega
theorem jn_take_len {cs al : List Int} {M : Nat} (h : ∀ n ∈ al, 1 ≤ n ∧ n ≤ 1000) (hM : M ≤ 600) (c : Nat) : (jn ((rowP cs al M).take c)).length ≤ 13200 := by
  have h1 := join_len (sep := [32]) rfl ((rowP cs al M).take c) (B := 21) (fun p hp => (rowP_ok h p (List.mem_of_mem_take hp)).1)
  have h2 : ((rowP cs al M).take c).length ≤ 600 := by rw [List.length_take, rowP_length]; omega
  unfold jn
  omega
def rowsT (lv : List S44) (cs : List Int) (M n : Nat) : List (List UInt8) := (List.range n).map fun (k : Nat) => jn (rowP cs (alv lv 0 (k : Int)) M)
theorem rowsT_length (lv : List S44) (cs : List Int) (M n : Nat) : (rowsT lv cs M n).length = n := by unfold rowsT; simp
theorem rowsT_get (lv : List S44) (cs : List Int) (M : Nat) {n k : Nat} (h : k < n) : (rowsT lv cs M n)[k]'(by rw [rowsT_length]; exact h) = jn (rowP cs (alv lv 0 (k : Int)) M) := by unfold rowsT; simp
section
variable {lv : List S44} {cs : List Int} {M n : Nat}
theorem alv_small (hl : lv.length ≤ 600) (k : Int) : ∀ x ∈ alv lv 0 k, 1 ≤ x ∧ x ≤ 1000 ∧ x ≤ (lv.length : Int) := by
  intro x hx
  obtain ⟨j, L, h1, h2, _⟩ := (mem_alv k lv 0 x).1 hx
  have := (List.getElem?_eq_some_iff.1 h1).1
  omega
theorem rowsT_len (hl : lv.length ≤ 600) (hM : M ≤ 600) (i : Nat) (hn : n ≤ 600) : (Lib.join ((rowsT lv cs M n).take i) [59]).length ≤ 7921200 := by
  have h1 := join_len (sep := [59]) rfl ((rowsT lv cs M n).take i) (B := 13200) (fun p hp => by
    obtain ⟨k, _, rfl⟩ := List.mem_map.1 (List.mem_of_mem_take hp)
    have := jn_take_len (cs := cs) (al := alv lv 0 (k : Int)) (M := M) (fun x hx => ⟨(alv_small hl _ x hx).1, (alv_small hl _ x hx).2.1⟩) hM M
    rwa [List.take_of_length_le (by rw [rowP_length]; exact Nat.le_refl _)] at this)
  have h2 : ((rowsT lv cs M n).take i).length ≤ 600 := by rw [List.length_take, rowsT_length]; omega
  omega
end
/-- the whole text -/
def cellsTxt (lv : List S44) (cs : List Int) (M n : Nat) : ByteArray := if n = 0 then ⟨#[45]⟩ else bs (Lib.join (rowsT lv cs M n) [59])
section
variable {lv : List S44} {cs : List Int} {M n : Nat} (hlv : lv.length ≤ 600) (hcl : cs.length = lv.length) (hM : (M : Int) = cntOf cs) (hM6 : M ≤ 600) (hM0 : 0 < n → 1 ≤ M) (hn : n ≤ 600) (hcs : ∀ y ∈ cs, 0 ≤ y ∧ y < (M : Int))
include hlv hcl
theorem ctS_l2 (i c : Nat) (B : ByteArray) (R : ByteArray × Bool) (hsz : B.size ≤ 100000000)
    (h : Ev (fun k => spec_CellsText.l1 k lv cs (if (c : Int) > 0 then (B ++ (⟨#[32]⟩ : ByteArray)) ++ bs (rv cs (alv lv 0 (i : Int)) (c : Int)) else B ++ bs (rv cs (alv lv 0 (i : Int)) (c : Int))) (alv lv 0 (i : Int)) (n : Int) (i : Int) (M : Int) ((c + 1 : Nat) : Int)) R) (hc : c ≤ 1000) :
    ∀ (d j : Nat), j + d = (alv lv 0 (i : Int)).length → Ev (fun k => spec_CellsText.l2 k lv cs B (alv lv 0 (i : Int)) (c : Int) (bs (rv cs ((alv lv 0 (i : Int)).take j) (c : Int))) (n : Int) (i : Int) (M : Int) (c : Int) (alv lv 0 (i : Int)) ((alv lv 0 (i : Int)).length : Int) (j : Int)) R
  | 0, j, hj => by
    have hb : (rv cs (alv lv 0 (i : Int)) (c : Int)).length ≤ 21 := by
      rcases rv_or cs (c : Int) (alv lv 0 (i : Int)) with e | ⟨x, hx, e⟩
      · rw [e]; decide
      · rw [e]
        have := alv_small hlv _ x hx
        exact itoa_len x (by omega) (by omega)
    refine Ev.step (fun k => spec_CellsText.l2.eq_2 (k := k) ..) ?_
    simp only [if_neg (show ¬ ((j : Int) < ((alv lv 0 (i : Int)).length : Int)) by omega)]
    rw [List.take_of_length_le (by omega)]
    by_cases hz : (c : Int) > 0
    · simp only [if_pos hz] at h ⊢
      refine Ev.pos (by omega) (Ev.pos (by rw [ByteArray.size_append, bs_size]; have : (⟨#[32]⟩ : ByteArray).size = 1 := rfl; omega) ?_)
      rw [wrap_up (by omega)]
      exact h
    · simp only [if_neg hz] at h ⊢
      refine Ev.pos (by rw [bs_size]; omega) ?_
      rw [wrap_up (by omega)]
      exact h
  | d + 1, j, hj => by
    have hlt : j < (alv lv 0 (i : Int)).length := by omega
    have hx := alv_small hlv _ _ (List.getElem_mem hlt)
    have hal := alv_length (i : Int) lv 0
    have ih := ctS_l2 i c B R hsz h hc d (j + 1) (by omega)
    rw [List.take_succ_eq_append_getElem hlt, rv_snoc] at ih
    refine Ev.step (fun k => spec_CellsText.l2.eq_2 (k := k) ..) ?_
    simp only [if_pos (show ((j : Int) < ((alv lv 0 (i : Int)).length : Int)) by omega), if_pos (show (0 : Int) ≤ (j : Int) by omega), rd_at hlt, wrap_up (show j ≤ 1000000000 by omega), wrap_small (n := (alv lv 0 (i : Int))[j] - 1) (by omega) (by omega), if_pos (show 0 ≤ (alv lv 0 (i : Int))[j] - 1 by omega), if_pos (show (alv lv 0 (i : Int))[j] - 1 < (cs.length : Int) by omega)]
    by_cases he : rd cs ((alv lv 0 (i : Int))[j] - 1) = (c : Int)
    · simp only [if_pos he] at ih ⊢
      exact Ev.bind (dec_ev _ (by omega) (by omega)) ih
    · simp only [if_neg he] at ih ⊢
      exact ih
theorem ctS_l1 (i : Nat) (P : List UInt8) (R : ByteArray × Bool) (hsz : P.length ≤ 50000000) (hM6 : M ≤ 600)
    (h : Ev (fun k => spec_CellsText.l0 k lv cs (bs (P ++ jn (rowP cs (alv lv 0 (i : Int)) M))) (n : Int) ((i + 1 : Nat) : Int)) R) (hi : i ≤ 1000) :
    ∀ (d c : Nat), c + d = M → Ev (fun k => spec_CellsText.l1 k lv cs (bs (P ++ jn ((rowP cs (alv lv 0 (i : Int)) M).take c))) (alv lv 0 (i : Int)) (n : Int) (i : Int) (M : Int) (c : Int)) R
  | 0, c, hc => by
    refine Ev.step (fun k => spec_CellsText.l1.eq_2 (k := k) ..) ?_
    simp only [if_neg (show ¬ ((c : Int) < (M : Int)) by omega), wrap_up (show i ≤ 1000000000 by omega)]
    rw [List.take_of_length_le (by rw [rowP_length]; omega)]
    exact h
  | d + 1, c, hc => by
    have hj := jn_take_len (cs := cs) (al := alv lv 0 (i : Int)) (M := M) (fun x hx => ⟨(alv_small hlv _ x hx).1, (alv_small hlv _ x hx).2.1⟩) hM6 c
    have ih := ctS_l1 i P R hsz hM6 h hi d (c + 1) (by omega)
    rw [jn_take (by rw [rowP_length]; omega), rowP_get _ _ (by omega)] at ih
    refine Ev.step (fun k => spec_CellsText.l1.eq_2 (k := k) ..) ?_
    simp only [if_pos (show ((c : Int) < (M : Int)) by omega)]
    refine ctS_l2 hlv hcl i c _ R (by rw [bs_size, List.length_append]; omega) ?_ (by omega) _ 0 (Nat.zero_add _)
    by_cases hz : c = 0
    · subst hz
      simp only [if_neg (show ¬ (((0 : Nat) : Int) > 0) by omega), bs_append]
      simp only [if_true] at ih
      simpa [jn, Lib.join_nil] using ih
    · simp only [if_pos (show (c : Int) > 0 by omega), show (⟨#[32]⟩ : ByteArray) = bs [32] from rfl, bs_append]
      simp only [if_neg hz] at ih
      simpa [List.append_assoc] using ih
include hM hM6 hcs
theorem ctI_l1 (i : Nat) (acc : List (List UInt8)) (R : ByteArray × Bool) (ha : acc.length ≤ 1000)
    (h : Ev (fun k => impl_CellsText.l0 k cs (M : Int) (acc.map bs ++ [bs (jn (rowP cs (alv lv 0 (i : Int)) M))]) lv (n : Int) ((i + 1 : Nat) : Int)) R) (hi : i ≤ 1000) :
    ∀ (d j : Nat), j + d = (alv lv 0 (i : Int)).length → Ev (fun k => impl_CellsText.l1 k cs (M : Int) (acc.map bs) lv ((rowP cs ((alv lv 0 (i : Int)).take j) M).map bs) (n : Int) (i : Int) (alv lv 0 (i : Int)) ((alv lv 0 (i : Int)).length : Int) (j : Int)) R
  | 0, j, hj => by
    refine Ev.step (fun k => impl_CellsText.l1.eq_2 (k := k) ..) ?_
    simp only [if_neg (show ¬ ((j : Int) < ((alv lv 0 (i : Int)).length : Int)) by omega), wrap_up (show i ≤ 1000000000 by omega)]
    rw [List.take_of_length_le (by omega)]
    have e : ((rowP cs (alv lv 0 (i : Int)) M).map bs).map (·.data.toList) = rowP cs (alv lv 0 (i : Int)) M := by
      rw [List.map_map]
      have : ((fun x : ByteArray => x.data.toList) ∘ bs) = id := by funext x; exact bs_list x
      rw [this, List.map_id]
    have hjl := jn_take_len (cs := cs) (al := alv lv 0 (i : Int)) (M := M) (fun x hx => ⟨(alv_small hlv _ x hx).1, (alv_small hlv _ x hx).2.1⟩) hM6 M
    rw [List.take_of_length_le (by rw [rowP_length]; exact Nat.le_refl _)] at hjl
    have hJ : strings_Join.f ((rowP cs (alv lv 0 (i : Int)) M).map bs) (⟨#[32]⟩ : ByteArray) = some (bs (jn (rowP cs (alv lv 0 (i : Int)) M))) := by
      unfold strings_Join.f
      rw [e, show (⟨#[32]⟩ : ByteArray).data.toList = [32] from rfl, if_pos ⟨by rw [List.length_map, rowP_length]; omega, by show (jn _).length ≤ _; omega⟩]
      rfl
    simp only [hJ, Option.bind_some, List.length_map]
    exact Ev.pos (by omega) h
  | d + 1, j, hj => by
    have hlt : j < (alv lv 0 (i : Int)).length := by omega
    have hx := alv_small hlv _ _ (List.getElem_mem hlt)
    have hal := alv_length (i : Int) lv 0
    have ih := ctI_l1 i acc R ha h hi d (j + 1) (by omega)
    have hy := hcs _ (rd_mem cs (i := (alv lv 0 (i : Int))[j] - 1) (by omega) (by omega))
    refine Ev.step (fun k => impl_CellsText.l1.eq_2 (k := k) ..) ?_
    simp only [if_pos (show ((j : Int) < ((alv lv 0 (i : Int)).length : Int)) by omega), if_pos (show (0 : Int) ≤ (j : Int) by omega), rd_at hlt, wrap_up (show j ≤ 1000000000 by omega), wrap_small (n := (alv lv 0 (i : Int))[j] - 1) (by omega) (by omega), if_pos (show 0 ≤ (alv lv 0 (i : Int))[j] - 1 by omega), if_pos (show (alv lv 0 (i : Int))[j] - 1 < (cs.length : Int) by omega), itoa_f (alv lv 0 (i : Int))[j] (by omega) (by omega), Option.bind_some, if_pos hy.1, List.length_map, rowP_length, if_pos hy.2]
    have e : ((rowP cs ((alv lv 0 (i : Int)).take j) M).map bs).set (rd cs ((alv lv 0 (i : Int))[j] - 1)).toNat (bs (Lib.itoa (alv lv 0 (i : Int))[j])) = (rowP cs ((alv lv 0 (i : Int)).take (j + 1)) M).map bs := by
      apply List.ext_getElem
      · simp [rowP_length]
      · intro q h1 h2
        simp only [List.length_map, rowP_length] at h2
        rw [List.getElem_set, List.getElem_map, List.getElem_map, rowP_get _ _ h2, rowP_get _ _ h2, List.take_succ_eq_append_getElem hlt, rv_snoc]
        by_cases hq : (rd cs ((alv lv 0 (i : Int))[j] - 1)).toNat = q
        · rw [if_pos hq, if_pos (by omega)]
        · rw [if_neg hq, if_neg (by omega)]
    rw [e]
    exact ih
include hM0 hn
theorem ctS_l0 : ∀ (d i : Nat), i + d = n → Ev (fun k => spec_CellsText.l0 k lv cs (bs (Lib.join ((rowsT lv cs M n).take i) [59])) (n : Int) (i : Int)) (cellsTxt lv cs M n, true)
  | 0, i, hi => by
    refine Ev.step (fun k => spec_CellsText.l0.eq_2 (k := k) ..) ?_
    simp only [if_neg (show ¬ ((i : Int) < (n : Int)) by omega)]
    rw [List.take_of_length_le (by rw [rowsT_length]; omega), bs_toList]
    unfold cellsTxt
    by_cases hz : n = 0
    · subst hz
      simp only [if_pos]
      rw [if_pos (by rfl)]
      exact Ev.now _
    · have hne : Lib.join (rowsT lv cs M n) [59] ≠ [] := by
        have hM1 := hM0 (by omega)
        cases hr : rowsT lv cs M n with
        | nil => have := rowsT_length lv cs M n; rw [hr] at this; simp at this; omega
        | cons p r =>
          have hp : p = jn (rowP cs (alv lv 0 ((0 : Nat) : Int)) M) := by
            have := rowsT_get lv cs M (n := n) (k := 0) (by omega)
            simp only [hr, List.getElem_cons_zero] at this
            exact this
          have hpn : p ≠ [] := by
            rw [hp]
            exact jn_ne _ (fun e => by have := congrArg List.length e; rw [rowP_length] at this; simp at this; omega) (fun q hq => (rowP_ok (fun x hx => ⟨(alv_small hlv _ x hx).1, (alv_small hlv _ x hx).2.1⟩) q hq).2)
          rw [Lib.join_cons]
          simp [hpn]
      simp only [if_neg hz, if_neg hne]
      exact Ev.now _
  | d + 1, i, hi => by
    have hlt : i < n := by omega
    have ih := ctS_l0 d (i + 1) (by omega)
    have hlen := rowsT_len (cs := cs) (n := n) hlv hM6 i hn
    rw [join_take (by rw [rowsT_length]; omega), rowsT_get _ _ _ (by omega)] at ih
    have J : ∀ P : List UInt8, P.length ≤ 50000000 → Ev (fun k => spec_CellsText.l0 k lv cs (bs (P ++ jn (rowP cs (alv lv 0 (i : Int)) M))) (n : Int) ((i + 1 : Nat) : Int)) (cellsTxt lv cs M n, true) →
        Ev (fun k => spec_CellsText.j1 k lv cs (bs P) (i : Int) (n : Int) (i : Int)) (cellsTxt lv cs M n, true) := by
      intro P hP h
      refine Ev.step (fun k => spec_CellsText.j1.eq_2 (k := k) ..) ?_
      refine Ev.bind (l7Alive_ev lv (i : Int) (by omega)) (Ev.bind (count_ev cs (by omega) (fun y hy => by have := hcs y hy; omega)) ?_)
      rw [← hM]
      have := ctS_l1 hlv hcl i P _ hP hM6 h (by omega) M 0 (Nat.zero_add _)
      simpa [jn, Lib.join_nil] using this
    refine Ev.step (fun k => spec_CellsText.l0.eq_2 (k := k) ..) ?_
    simp only [if_pos (show ((i : Int) < (n : Int)) by omega)]
    by_cases hz : i = 0
    · subst hz
      simp only [if_neg (show ¬ (((0 : Nat) : Int) > 0) by omega)]
      refine J _ (by simp [Lib.join_nil]) ?_
      simp only [if_true] at ih
      simpa [Lib.join_nil] using ih
    · simp only [if_pos (show ((i : Int) > 0) by omega), show (⟨#[59]⟩ : ByteArray) = bs [59] from rfl, bs_append, bs_size]
      refine Ev.pos (by omega) (J _ (by simp only [List.length_append, List.length_singleton]; omega) ?_)
      simp only [if_neg hz] at ih
      exact ih
theorem ctI_l0 : ∀ (d i : Nat), i + d = n → Ev (fun k => impl_CellsText.l0 k cs (M : Int) (((rowsT lv cs M n).take i).map bs) lv (n : Int) (i : Int)) (cellsTxt lv cs M n, true)
  | 0, i, hi => by
    refine Ev.step (fun k => impl_CellsText.l0.eq_2 (k := k) ..) ?_
    simp only [if_neg (show ¬ ((i : Int) < (n : Int)) by omega)]
    rw [List.take_of_length_le (by rw [rowsT_length]; omega)]
    unfold cellsTxt
    by_cases hz : n = 0
    · subst hz
      simp only [if_pos]
      rw [if_pos (by rfl)]
      exact Ev.now _
    · have e : ((rowsT lv cs M n).map bs).map (·.data.toList) = rowsT lv cs M n := by
        rw [List.map_map]
        have : ((fun x : ByteArray => x.data.toList) ∘ bs) = id := by funext x; exact bs_list x
        rw [this, List.map_id]
      have hlen := rowsT_len (cs := cs) (n := n) hlv hM6 n hn
      rw [List.take_of_length_le (by rw [rowsT_length]; exact Nat.le_refl _)] at hlen
      have hJ : strings_Join.f ((rowsT lv cs M n).map bs) (⟨#[59]⟩ : ByteArray) = some (bs (Lib.join (rowsT lv cs M n) [59])) := by
        unfold strings_Join.f
        rw [e, show (⟨#[59]⟩ : ByteArray).data.toList = [59] from rfl, if_pos ⟨by rw [List.length_map, rowsT_length]; omega, by omega⟩]
        rfl
      simp only [if_neg hz, hJ, Option.bind_some, List.length_map, rowsT_length, if_neg (show ¬ ((n : Int) = 0) by omega)]
      exact Ev.now _
  | d + 1, i, hi => by
    have hlt : i < n := by omega
    have ih := ctI_l0 d (i + 1) (by omega)
    rw [List.take_succ_eq_append_getElem (by rw [rowsT_length]; omega), rowsT_get _ _ _ (by omega), List.map_append, List.map_cons, List.map_nil] at ih
    have hrep : slices_Repeat_string_string.f [(⟨#[46]⟩ : ByteArray)] (M : Int) = some ((rowP cs ((alv lv 0 (i : Int)).take 0) M).map bs) := by
      unfold slices_Repeat_string_string.f
      rw [if_pos ⟨rfl, by omega, by omega⟩]
      congr 1
      unfold rowP
      rw [List.map_map, Int.toNat_natCast]
      apply List.ext_getElem
      · simp
      · intro q h1 h2
        simp [rv]
        rfl
    refine Ev.step (fun k => impl_CellsText.l0.eq_2 (k := k) ..) ?_
    simp only [if_pos (show ((i : Int) < (n : Int)) by omega), hrep, Option.bind_some]
    refine Ev.bind (alive_ev lv (i : Int) (by omega)) ?_
    exact ctI_l1 hlv hcl hM hM6 hcs i _ _ (by rw [List.length_take, rowsT_length]; omega) ih (by omega) _ 0 (Nat.zero_add _)
end
theorem Good.some_made {o : List S50} {m : Nat} {l : List Int} (h : Good o m l) : 0 < o.length → 1 ≤ m := by
  induction h with
  | nil => intro h; simp at h
  | make g hs ih => intro _; omega
  | use g hs hn ih => intro _; have := g.range _ hn; omega
  | kill g hs hn ih => intro _; have := g.range _ hn; omega
def cellsTextOf (a0 : ByteArray) : ByteArray × Bool := if (toldOf a0).2.2 = true then (cellsTxt (lvs (toldOf a0).1) (cst Gf (toldOf a0).1).1 (cntOf (cst Gf (toldOf a0).1).1).toNat (toldOf a0).1.length, true) else (⟨#[]⟩, false)
theorem ct_facts {o : List S50} {m : Nat} {l : List Int} (g : Good o m l) (hl : o.length ≤ 600) : (lvs o).length ≤ 600 ∧ (cst Gf o).1.length = (lvs o).length ∧ (((cntOf (cst Gf o).1).toNat : Nat) : Int) = cntOf (cst Gf o).1 ∧ (cntOf (cst Gf o).1).toNat ≤ 600 ∧ (0 < o.length → 1 ≤ (cntOf (cst Gf o).1).toNat) ∧ ∀ y ∈ (cst Gf o).1, 0 ≤ y ∧ y < (((cntOf (cst Gf o).1).toNat : Nat) : Int) := by
  have h1 := g.lvs_length
  have h2 := g.made
  have h3 := g.cells_length (G := Gf)
  have h4 := g.taken (G := Gf) getter_first.bound
  have h5 := cntGo_le (cst Gf o).1 0
  have h6 := cntGo_is (cst Gf o).1 0
  have h7 : cntOf (cst Gf o).1 = cntGo (cst Gf o).1 0 := rfl
  rw [h7]
  have hle : cntGo (cst Gf o).1 0 ≤ 600 := by
    rcases h6 with h6 | ⟨x, hx, h6⟩
    · omega
    · have := h4.2.2 x hx; omega
  refine ⟨by omega, by omega, by omega, by omega, fun hp => ?_, fun y hy => ⟨(h4.2.2 y hy).1, by have := h5.2 y hy; omega⟩⟩
  have hm := g.some_made hp
  obtain ⟨y, hy⟩ : ∃ y, y ∈ (cst Gf o).1 := ⟨_, List.getElem_mem (show 0 < (cst Gf o).1.length by omega)⟩
  have := h5.2 y hy
  have := h4.2.2 y hy
  omega
theorem ctS_ev (a0 : ByteArray) (hs : a0.size ≤ 1048576) : Ev (fun k => spec_CellsText.f k a0) (cellsTextOf a0) := by
  obtain ⟨m, l, g, hm, hl⟩ := told_good a0
  obtain ⟨f1, f2, f3, f4, f5, f6⟩ := ct_facts g hl
  unfold spec_CellsText.f cellsTextOf
  refine Ev.bind (l7Read_ev a0 hs) ?_
  dsimp only
  split
  · refine Ev.bind (lives_ev g (by omega)) (Ev.bind (cells_ev g (by omega)) ?_)
    have := ctS_l0 f1 f2 f3 f4 f5 hl f6 _ 0 (Nat.zero_add _)
    rw [List.length_map]
    exact this
  · exact Ev.now _
theorem ctI_ev (a0 : ByteArray) (hs : a0.size ≤ 1048576) : Ev (fun k => impl_CellsText.f k a0) (cellsTextOf a0) := by
  obtain ⟨m, l, g, hm, hl⟩ := told_good a0
  obtain ⟨f1, f2, f3, f4, f5, f6⟩ := ct_facts g hl
  unfold impl_CellsText.f cellsTextOf
  simp only [kept_f a0 hs, told_f a0 hs, Option.bind_some, hm]
  unfold cellsOf manyOf
  by_cases hb : (toldOf a0).2.2 = true
  · simp only [if_pos hb, if_true, lives_told g (show (toldOf a0).1.length ≤ 1000000 by omega), Option.bind_some]
    have := ctI_l0 f1 f2 f3 f4 f5 hl f6 _ 0 (Nat.zero_add _)
    rw [f3] at this
    exact this
  · simp only [if_neg hb, Bool.false_eq_true, if_false]
    exact Ev.now _
end Go.Proofs.YtmhagppajcidcaaDoor.Pr
namespace Go.Proofs.YtmhagppajcidcaaDoor.Pure
open Go.RowKit Go.Proofs.YtmhagppajcidcaaDoorW.PrintWords Go.Proofs.YtmhagppajcidcaaDoorW.PrintLast Go.Proofs.YtmhagppajcidcaaDoorW.PrintMore
open Go.Proofs.YtmhagppajcidcaaDoor.Pr
theorem FnExactCellsText : laws_FnExactCellsText.Pure := by
  intro a0 _
  by_cases hs : (a0.size : Int) > 1048576
  · exact ⟨0, by unfold laws_FnExactCellsText.f; rw [if_pos hs]⟩
  · refine Ev.rounds ?_
    unfold laws_FnExactCellsText.f
    simp only [if_neg hs]
    refine Ev.bind (ctS_ev a0 (by omega)) (Ev.bind (ctI_ev a0 (by omega)) ?_)
    simp only [if_true, bne_self_eq_false, Bool.false_eq_true, if_false]
    exact Ev.now _
end Go.Proofs.YtmhagppajcidcaaDoor.Pure
