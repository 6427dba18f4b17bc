/- FnExactFormatNumbers: the plain law. -/
import Derived.Test.YtlikgaohcnbocaaDoorPG
import Derived.Test.YtlikgaohcnbocaaDoorPFb
import Derived.Test.YtlikgaohcnbocaaDoorQ3
namespace Go.Proofs.YtlikgaohcnbocaaDoor.Pr
open Go.RowKit Go.Proofs.YtlikgaohcnbocaaDoorW.PrintWords Go.Proofs.YtlikgaohcnbocaaDoorW.PrintLast Go.Proofs.YtlikgaohcnbocaaDoorW.PrintMore
def nums_ (l : List Int) : List (List UInt8) := l.map Lib.itoa
def Nums (l : List Int) : Prop := ∀ x ∈ l, Num x
theorem nums_len {l : List Int} (h : Nums l) : ∀ p ∈ nums_ l, p.length ≤ 21 := by
  intro p hp
  obtain ⟨x, hx, rfl⟩ := List.mem_map.1 hp
  exact itoa_len x (h x hx).1 (h x hx).2
theorem nums_ne (l : List Int) : ∀ p ∈ nums_ l, p ≠ [] := by
  intro p hp
  obtain ⟨x, hx, rfl⟩ := List.mem_map.1 hp
  exact itoa_some x
theorem take_len {B : Nat} {ps : List (List UInt8)} (h : ∀ p ∈ ps, p.length ≤ B) (i : Nat) (hB : B ≤ 1000) (hi : i ≤ 2000000) : (jn (ps.take i)).length ≤ 2002000000 := by
  have h1 := jn_len (B := B) (ps.take i) (fun p hp => h p (List.mem_of_mem_take hp))
  have h2 : (ps.take i).length ≤ 2000000 := by rw [List.length_take]; omega
  have := Nat.mul_le_mul (show B + 1 ≤ 1001 by omega) h2
  omega
theorem last_txt {ps : List (List UInt8)} (h : ∀ p ∈ ps, p ≠ []) : (if (bs (jn ps)).toList = ([] : List UInt8) then (some (⟨#[45]⟩ : ByteArray)) else (some (bs (jn ps)))) = some (txt ps) := by
  unfold txt
  rw [bs_toList]
  by_cases hp : ps = []
  · subst hp
    rfl
  · rw [if_neg (jn_ne ps hp h), if_neg hp]
theorem fnS_go (l : List Int) (hn : Nums l) (hl : l.length ≤ 1048576) : ∀ (d i : Nat), i + d = l.length →
    Ev (fun k => spec_FormatNumbers.l0 k (bs (jn ((nums_ l).take i))) l (l.length : Int) (i : Int)) (txt (nums_ l))
  | 0, i, hi => by
    refine Ev.step (fun k => spec_FormatNumbers.l0.eq_2 (k := k) ..) ?_
    simp only [if_neg (show ¬ ((i : Int) < (l.length : Int)) by omega)]
    rw [List.take_of_length_le (by unfold nums_; rw [List.length_map]; omega)]
    simp only [last_txt (nums_ne l)]
    exact Ev.now _
  | d + 1, i, hi => by
    have hlt : i < l.length := by omega
    have hnl : (nums_ l).length = l.length := List.length_map ..
    have hx := hn _ (List.getElem_mem hlt)
    have ih := fnS_go l hn hl d (i + 1) (by omega)
    rw [jn_take (by omega)] at ih
    have hg : (nums_ l)[i]'(by omega) = Lib.itoa l[i] := List.getElem_map ..
    rw [hg] at ih
    have hlen := take_len (nums_len hn) i (by omega) (by omega)
    have hit := itoa_len l[i] hx.1 hx.2
    refine Ev.step (fun k => spec_FormatNumbers.l0.eq_2 (k := k) ..) ?_
    simp only [if_pos (show ((i : Int) < (l.length : Int)) by omega), if_pos (show (0 : Int) ≤ (i : Int) by omega), rd_at hlt, wrap_up (show i ≤ 1000000000 by omega)]
    by_cases h0 : i = 0
    · subst h0
      simp only [if_neg (show ¬ (((0 : Nat) : Int) > 0) by omega)]
      refine Ev.bind (dec_ev _ hx.1 hx.2) ?_
      simp only [bs_size, bs_append, if_pos (show (jn ((nums_ l).take 0)).length + (Lib.itoa l[0]).length ≤ 9223372036854775807 by omega)]
      simpa [jn, Lib.join_nil] using ih
    · simp only [if_pos (show ((i : Int) > 0) by omega)]
      rw [if_neg h0] at ih
      rw [show (⟨#[32]⟩ : ByteArray) = bs [32] from rfl]
      simp only [bs_size, bs_append, if_pos (show (jn ((nums_ l).take i)).length + 1 ≤ 9223372036854775807 by omega)]
      refine Ev.bind (dec_ev _ hx.1 hx.2) ?_
      simp only [bs_size, bs_append, List.length_append, List.length_singleton, if_pos (show (jn ((nums_ l).take i)).length + 1 + (Lib.itoa l[i]).length ≤ 9223372036854775807 by omega)]
      exact ih
theorem fnI_go (l : List Int) (hn : Nums l) (hl : l.length ≤ 1048576) : ∀ (d i : Nat), i + d = l.length →
    Ev (fun k => impl_FormatNumbers.l0 k (((nums_ l).take i).map bs) l (l.length : Int) (i : Int)) (txt (nums_ l))
  | 0, i, hi => by
    have hnl : (nums_ l).length = l.length := List.length_map ..
    refine Ev.step (fun k => impl_FormatNumbers.l0.eq_2 (k := k) ..) ?_
    simp only [if_neg (show ¬ ((i : Int) < (l.length : Int)) by omega)]
    rw [List.take_of_length_le (by omega), spaced_txt (nums_ l) (nums_len hn) (by omega) (by omega)]
    exact Ev.now _
  | d + 1, i, hi => by
    have hlt : i < l.length := by omega
    have hnl : (nums_ l).length = l.length := List.length_map ..
    have hx := hn _ (List.getElem_mem hlt)
    have ih := fnI_go l hn hl d (i + 1) (by omega)
    rw [List.take_succ_eq_append_getElem (by omega)] at ih
    have hg : (nums_ l)[i]'(by omega) = Lib.itoa l[i] := List.getElem_map ..
    rw [hg, List.map_append] at ih
    refine Ev.step (fun k => impl_FormatNumbers.l0.eq_2 (k := k) ..) ?_
    simp only [if_pos (show ((i : Int) < (l.length : Int)) by omega), if_pos (show (0 : Int) ≤ (i : Int) by omega), rd_at hlt, wrap_up (show i ≤ 1000000000 by omega), itoa_f _ hx.1 hx.2, Option.bind_some, List.length_map, List.length_take, if_pos (show min i (nums_ l).length < 8796093022208 by omega)]
    exact ih
theorem fnS_ev (l : List Int) (hn : Nums l) (hl : l.length ≤ 1048576) : Ev (fun k => spec_FormatNumbers.f k l) (txt (nums_ l)) := by
  have := fnS_go l hn hl l.length 0 (Nat.zero_add _)
  rw [List.take_zero] at this
  exact this
theorem fnI_ev (l : List Int) (hn : Nums l) (hl : l.length ≤ 1048576) : Ev (fun k => impl_FormatNumbers.f k l) (txt (nums_ l)) := by
  have := fnI_go l hn hl l.length 0 (Nat.zero_add _)
  rw [List.take_zero] at this
  exact this
theorem toInt_go (l : List Int) (hl : l.length ≤ 1048576) : ∀ (d i : Nat), i + d = l.length → Ev (fun k => laws_toIntS.l0 k l (l.take i ++ List.replicate d 0) (i : Int)) l
  | 0, i, hi => by
    refine Ev.step (fun k => laws_toIntS.l0.eq_2 (k := k) ..) ?_
    simp only [if_neg (show ¬ ((i : Int) < (l.length : Int)) by omega)]
    rw [List.take_of_length_le (by omega), List.replicate_zero, List.append_nil]
    exact Ev.now _
  | d + 1, i, hi => by
    have hlt : i < l.length := by omega
    have ih := toInt_go l hl d (i + 1) (by omega)
    rw [List.take_succ_eq_append_getElem hlt, List.append_assoc] at ih
    refine Ev.step (fun k => laws_toIntS.l0.eq_2 (k := k) ..) ?_
    simp only [if_pos (show ((i : Int) < (l.length : Int)) by omega), if_pos (show (0 : Int) ≤ (i : Int) by omega), if_pos (show ((i : Int) < ((l.take i ++ List.replicate (d + 1) 0).length : Int)) by simp; omega), rd_at hlt, wrap_up (show i ≤ 1000000000 by omega), Int.toNat_natCast]
    have e : (l.take i ++ List.replicate (d + 1) 0).set i l[i] = l.take i ++ ([l[i]] ++ List.replicate d 0) := by
      rw [List.set_append_right _ _ (by rw [List.length_take]; omega), List.length_take, show i - min i l.length = 0 by omega, List.replicate_succ, List.set_cons_zero]
      rfl
    rw [e]
    exact ih
theorem toInt_ev (l : List Int) (hl : l.length ≤ 1048576) : Ev (fun k => laws_toIntS.f k l) l := by
  unfold laws_toIntS.f
  simp only [if_pos (show 0 ≤ (l.length : Int) by omega), Int.toNat_natCast, if_pos (show l.length ≤ 35184372088832 by omega)]
  have := toInt_go l hl l.length 0 (Nat.zero_add _)
  rw [List.take_zero, List.nil_append] at this
  exact this
theorem num_wf {x : Int} (h : (Lit.int .i64 x).wf = true) : Num x := by
  simp only [Lit.wf, Bool.and_eq_true, decide_eq_true_eq] at h
  exact ⟨h.1, h.2⟩
end Go.Proofs.YtlikgaohcnbocaaDoor.Pr
namespace Go.Proofs.YtlikgaohcnbocaaDoor.Pure
open Go.RowKit Go.Proofs.YtlikgaohcnbocaaDoorW.PrintWords Go.Proofs.YtlikgaohcnbocaaDoorW.PrintLast Go.Proofs.YtlikgaohcnbocaaDoorW.PrintMore
open Go.Proofs.YtlikgaohcnbocaaDoor.Pr
theorem FnExactFormatNumbers : laws_FnExactFormatNumbers.Pure := by
  intro l _ _ hwf
  have hn : Nums l := fun x hx => num_wf (hwf x hx)
  by_cases hs : (l.length : Int) > 1048576
  · exact ⟨0, by unfold laws_FnExactFormatNumbers.f; rw [if_pos hs]⟩
  · refine Ev.rounds ?_
    unfold laws_FnExactFormatNumbers.f
    simp only [if_neg hs]
    refine Ev.bind (toInt_ev l (by omega)) (Ev.bind (fnS_ev l hn (by omega)) (Ev.bind (toInt_ev l (by omega)) (Ev.bind (fnI_ev l hn (by omega)) ?_)))
    simp only [if_true]
    refine Ev.bind (toInt_ev l (by omega)) (Ev.bind (eqInt_ev l (by omega)) ?_)
    simp only [if_true]
    exact Ev.now _
end Go.Proofs.YtlikgaohcnbocaaDoor.Pure
