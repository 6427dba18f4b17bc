/- CountSteps and IsStraight, of the program and of the reference; the laws. -/
import Derived.Test.YtopgkaekbbaglaaFa
namespace Go.Proofs.Ytopgkaekbbaglaa
open Go.RowKit Pl

def kindsA : ByteArray := ⟨#[43, 61, 46, 45, 126, 94, 33, 63, 42, 123]⟩
def kindsB : ByteArray := ⟨#[43, 45, 46, 126, 61, 94, 33, 63, 42, 123]⟩
theorem kinds_same (c : UInt8) : has kindsB c = has kindsA c := by
  simp only [has, kindsA, kindsB, List.contains_cons, List.contains_nil, Bool.or_false]
  ac_rfl
/-- so many of the first steps are of a kind -/
def countTo (L : List Inf) (c : UInt8) (k : Nat) : Nat := ((L.take k).filter (fun i => i.kind == c)).length
theorem countTo_zero (L : List Inf) (c : UInt8) : countTo L c 0 = 0 := by simp [countTo]
theorem countTo_step {L : List Inf} {c : UInt8} {k : Nat} (hk : k < L.length) : countTo L c (k + 1) = countTo L c k + (if L[k].kind = c then 1 else 0) := by
  unfold countTo
  rw [List.take_succ_eq_append_getElem hk, List.filter_append, List.length_append]
  by_cases h : L[k].kind = c <;> simp [h]
theorem countTo_le (L : List Inf) (c : UInt8) (k : Nat) : countTo L c k ≤ L.length := by
  unfold countTo
  exact Nat.le_trans (List.length_filter_le _ _) (List.length_take_le' _ _)
def countOf (p kind : ByteArray) : Int := if IParse p = none ∨ kind.size ≠ 1 ∨ has kindsA (bAt kind 0) = false then -1 else (countTo (Flat p) (bAt kind 0) (Flat p).length : Int)
theorem countOf_none {p kind : ByteArray} (h : IParse p = none) : countOf p kind = -1 := by unfold countOf; rw [if_pos (.inl h)]
theorem countOf_size {p kind : ByteArray} (h : kind.size ≠ 1) : countOf p kind = -1 := by unfold countOf; rw [if_pos (.inr (.inl h))]
theorem countOf_has {p kind : ByteArray} (h : has kindsA (bAt kind 0) = false) : countOf p kind = -1 := by unfold countOf; rw [if_pos (.inr (.inr h))]
theorem countOf_some {p kind : ByteArray} (h1 : IParse p ≠ none) (h2 : kind.size = 1) (h3 : has kindsA (bAt kind 0) = true) : countOf p kind = (countTo (Flat p) (bAt kind 0) (Flat p).length : Int) := by
  unfold countOf
  rw [if_neg (by rintro (h | h | h); exact h1 h; exact h h2; rw [h3] at h; cases h)]
theorem isSome_of {p : ByteArray} (h : IParse p ≠ none) : (IParse p).isSome = true := by
  cases hp : IParse p
  · exact absurd hp h
  · rfl
theorem drewN_below (w : World) (n : Nat) : Below w.heap.size w (w.drewN n) := below_of (grown_drewN w n none)
/-- the rounds' relation of the program's count -/
def CountRel (L : List Inf) (c : UInt8) (w1 : World) (a i' : Value) (wr : World) : Prop :=
  ∃ k : Nat, k ≤ L.length ∧ a = .int .i64 (countTo L c k) ∧ i' = .int .i64 k ∧ Below w1.heap.size w1 wr
set_option maxHeartbeats 1600000 in
set_option maxRecDepth 1000000 in
theorem icount_any (p kind : ByteArray) (w : World) (hp : p.size ≤ 1048576) : Calls Try.prog 24 #[.string p, .string kind] w fun e w' => e = .returned (.int .i64 (countOf p kind)) ∧ Below w.heap.size w w' := by
  by_cases h1 : IParse p = none
  · have hv : (IParse p).isSome = false := by rw [h1]; rfl
    have HC := Lib.hid (countOf_none (kind := kind) h1)
    have HV := Lib.hid hv
    clear h1 hv
    go_enter Try.func24, Try.ntmps24
    go_wp2_with fail
    refine (valid_any p w hp).mono ?_
    rintro e w1 ⟨rfl, hb⟩
    rw [HV.out]
    have HB := Lib.hid hb
    clear hb
    go_wp2_with fail
    go_ret
    exact ⟨by rw [HC.out]; rfl, HB.out⟩
  · have HV := Lib.hid (isSome_of h1)
    by_cases h2 : kind.size = 1
    · have g2 : ((kind.size : Int) != 1) = false := by rw [h2]; rfl
      have h0 : 0 < kind.size := by omega
      cases h3 : has kindsA (bAt kind 0)
      · have HC := Lib.hid (countOf_has (p := p) h3)
        have HK := Lib.hid h3
        have H2 := Lib.hid h2
        clear h1 h2 h3
        go_enter Try.func24, Try.ntmps24
        go_wp2_with fail
        refine (valid_any p w hp).mono ?_
        rintro e w1 ⟨rfl, hb⟩
        rw [HV.out]
        have HB := Lib.hid hb
        clear hb
        go_wp2_with fail
        refine (contains_any kindsA kind _ H2.out).mono ?_
        rintro e w2 ⟨rfl, rfl⟩
        rw [HK.out]
        go_wp2_with fail
        go_ret
        exact ⟨by rw [HC.out]; rfl, HB.out⟩
      · have HC := Lib.hid (countOf_some h1 h2 h3)
        have HK := Lib.hid h3
        have H2 := Lib.hid h2
        clear h1 h2 h3
        go_enter Try.func24, Try.ntmps24
        go_wp2_with fail
        refine (valid_any p w hp).mono ?_
        rintro e w1 ⟨rfl, hb⟩
        rw [HV.out]
        have HB := Lib.hid hb
        clear hb
        go_wp2_with fail
        refine (contains_any kindsA kind _ H2.out).mono ?_
        rintro e w2 ⟨rfl, rfl⟩
        rw [HK.out]
        go_wp2_with fail
        refine (iall_any p _ hp).mono ?_
        rintro e w2 ⟨v, ps, rfl, hb, hO, hN⟩
        obtain ⟨A, c, rfl⟩ := hO.form
        have hlen := hN.length
        have hle := flat_le p
        have HO := Lib.hid hO
        have HN := Lib.hid hN
        have HB2 := Lib.hid (HB.out.trans (hb.mono HB.out.size))
        rw [hlen]
        rw [hlen] at HO
        have HL := Lib.hid hlen
        clear hO hN hb hlen
        generalize Flat p = L at *
        go_wp2_with fail
        go_loopw [5, 24] (fun a i' wr => CountRel L (bAt kind 0) w2 a i' wr) (fun _ i' _ => L.length - (intOf i').toNat)
        case atStart => exact ⟨0, Nat.zero_le _, by rw [countTo_zero]; rfl, rfl, Below.refl _ _⟩
        case round =>
          obtain ⟨k, hkl, rfl, rfl, hbr⟩ := hrel
          have HBr := Lib.hid (fun n => hbr.trans ((drewN_below wr n).mono hbr.size))
          have HBr0 := Lib.hid hbr
          have hcl := countTo_le L (bAt kind 0) k
          by_cases hlt : k < L.length
          · obtain ⟨g, A', n', c', hps, _, hh⟩ := HN.out.at hlt
            obtain ⟨gb, rfl, hc0⟩ := HO.out.at HL.out.symm hlt
            rw [hps] at hc0
            have hc := below_cell hbr hc0
            have hk0 := below_cell hbr (show w2.cell? ⟨g, 0, none⟩ = some (.int .u8 (L[k]).kind.toNat) by simp [World.cell?, hh])
            have HS := Lib.hid (countTo_step (c := bAt kind 0) hlt)
            clear hh hps hc0 hbr
            by_cases hq : (L[k]).kind = bAt kind 0
            · have g3 : (((L[k]).kind.toNat : Int) == ((kind[0]'h0).toNat : Int)) = true := by rw [bAt_get h0, hq]; simp
              have HQ := Lib.hid hq
              clear hq
              go_wp2_with fail
              go_quiet (fail)
              go_wp2_with fail
              go_roundw
              case rel => exact ⟨k + 1, hlt, by rw [HS.out, if_pos HQ.out]; go_num, by go_num, HBr.out _⟩
              case measure => simp [intOf]; omega
            · have g3 : (((L[k]).kind.toNat : Int) == ((kind[0]'h0).toNat : Int)) = false := by
                rw [bAt_get h0, beq_eq_false_iff_ne]
                intro e
                exact hq ((byte_eq _ _).1 e)
              have HQ := Lib.hid hq
              clear hq
              go_wp2_with fail
              go_quiet (fail)
              go_wp2_with fail
              go_roundw
              case rel => exact ⟨k + 1, hlt, by rw [HS.out, if_neg HQ.out]; rfl, by go_num, HBr.out _⟩
              case measure => simp [intOf]; omega
          · have hkn : k = L.length := by omega
            subst hkn
            clear hbr
            go_wp2_with fail
            go_ret
            exact ⟨by rw [HC.out]; rfl, HB2.out.trans (HBr0.out.mono HB2.out.size)⟩
    · have g2 : ((kind.size : Int) != 1) = true := by rw [bne_iff_ne]; omega
      have HC := Lib.hid (countOf_size (p := p) h2)
      clear h1 h2
      go_enter Try.func24, Try.ntmps24
      go_wp2_with fail
      refine (valid_any p w hp).mono ?_
      rintro e w1 ⟨rfl, hb⟩
      rw [HV.out]
      have HB := Lib.hid hb
      clear hb
      go_wp2_with fail
      go_ret
      exact ⟨by rw [HC.out]; rfl, HB.out⟩

def SCountRel (L : List Inf) (c : UInt8) (w3 : World) (a i' : Value) (wr : World) : Prop :=
  ∃ k : Nat, k ≤ L.length ∧ a = .int .i64 (countTo L c k) ∧ i' = .int .i64 k ∧ Below w3.heap.size w3 wr
theorem find_lt {s : ByteArray} {c : UInt8} {b : Bool} (h : has s c = b) : decide (Lib.indexByte s.data.toList c < 0) = !b := by
  rw [find_neg, show s.data.toList.contains c = b from h]
set_option maxHeartbeats 1600000 in
set_option maxRecDepth 1000000 in
theorem scount_any (p kind : ByteArray) (w : World) (hp : p.size ≤ 1048576) : Calls Try.prog 23 #[.string p, .string kind] w fun e w' => e = .returned (.int .i64 (countOf p kind)) ∧ Below w.heap.size w w' := by
  go_enter Try.func23, Try.ntmps23
  go_wp2_with fail
  refine (read_any p w hp).mono ?_
  rintro e w1 ⟨hb, h⟩
  rcases h with ⟨hs, rfl⟩ | ⟨i, b0, b1, bs, hs, rfl, hc⟩
  · have HC := Lib.hid (countOf_none (kind := kind) (show IParse p = none by rw [← parse_eq]; exact hs))
    have HB := Lib.hid hb
    clear hs hb
    unfold zeroSix
    go_wp2_with fail
    go_ret
    exact ⟨by rw [HC.out]; rfl, HB.out.trans (below_of (World.grownBy_alloc w1 _ none) |>.mono HB.out.size)⟩
  · obtain ⟨A, c, rfl, hI, hm, hba, hca⟩ := read_parts hb hs hc
    have hI2 : IParse p ≠ none := by rw [hI]; simp
    have HE := Lib.hid (fun o => each_any _ i b0 b1 (by omega) (Nat.le_refl _) (w1.alloc o) (fun j => j < w1.heap.size) A c (fun j hj => by simp; omega) (hca o))
    have HB := Lib.hid hba
    have HF := Lib.hid (flat_some hI)
    have hle : (T.cons i b0 b1 .nil).flat.length ≤ 80 := Nat.le_trans (flat_count _) hm
    clear hb hs hc hI hba hca
    by_cases h2 : kind.size = 1
    · have g2 : ((kind.size : Int) != 1) = false := by rw [h2]; rfl
      have h0 : 0 < kind.size := by omega
      cases h3 : has kindsA (bAt kind 0)
      · have HC := Lib.hid (countOf_has (p := p) h3)
        have g3 : decide (Lib.indexByte kindsB.data.toList (kind[0]'h0) < 0) = true := by rw [find_lt (b := false) (by rw [bAt_get h0, kinds_same, h3])]; rfl
        clear h2 h3 hI2
        go_wp2_with fail
        refine (find_any kindsB (kind[0]'h0) _ rfl _ (by decide)).mono ?_
        rintro e w2 ⟨rfl, rfl⟩
        go_wp2_with fail
        go_ret
        exact ⟨by rw [HC.out]; rfl, HB.out _⟩
      · have HC := Lib.hid (countOf_some hI2 h2 h3)
        have g3 : decide (Lib.indexByte kindsB.data.toList (kind[0]'h0) < 0) = false := by rw [find_lt (b := true) (by rw [bAt_get h0, kinds_same, h3])]; rfl
        clear h2 h3 hI2
        rw [HF.out] at HC
        generalize (T.cons i b0 b1 .nil).flat = L at *
        go_wp2_with fail
        refine (find_any kindsB (kind[0]'h0) _ rfl _ (by decide)).mono ?_
        rintro e w2 ⟨rfl, rfl⟩
        go_wp2_with fail
        refine (HE.out _).mono ?_
        rintro e w3 ⟨v, xs, rfl, hb3, hO3, hN3⟩
        have hB3 := (HB.out (.cells #[.int .u8 i.kind.toNat, .int .i64 i.at_, .int .i64 i.end_, .string i.vars, .slice A i.nb c, .string i.scope] 46)).trans (hb3.mono (HB.out _).size)
        obtain ⟨B, d, rfl⟩ := hO3.form
        have X4 := Lib.hid hB3
        have X5 := Lib.hid hO3
        have X6 := Lib.hid hN3
        clear hb3 hB3 hO3 hN3 g3
        go_wp2_with fail
        go_loopw [7, 31] (fun a i' wr => SCountRel L (bAt kind 0) w3 a i' wr) (fun _ i' _ => L.length - (intOf i').toNat)
        case atStart => exact ⟨0, Nat.zero_le _, by rw [countTo_zero]; rfl, rfl, Below.refl _ _⟩
        case round =>
          obtain ⟨k, hkl, rfl, rfl, hbr⟩ := hrel
          have hcl := countTo_le L (bAt kind 0) k
          by_cases hlt : k < L.length
          · obtain ⟨A2, n2, c2, h6⟩ := X6.out.at hlt
            obtain ⟨gb, rfl⟩ : ∃ gb, B = some ⟨gb, 0, none⟩ := by
              obtain ⟨g, c', hv⟩ := X5.out.some (by omega)
              injection hv with hv1 hv2 hv3
              exact ⟨g, hv1⟩
            have hs := (six_of X5.out.row hlt h6).below hbr
            obtain ⟨s0, s1, s2, s3, s4, s5⟩ := hs
            have hkk : k ≤ 80 := by omega
            have HBr := Lib.hid (fun o n => hbr.trans ((below_of (World.grownBy.trans (World.grownBy_alloc wr o none) (grown_drewN _ n none))).mono hbr.size))
            have HS := Lib.hid (countTo_step (c := bAt kind 0) hlt)
            clear hbr h6
            by_cases hq : (L[k]).kind = bAt kind 0
            · have g3 : (((L[k]).kind.toNat : Int) == ((kind[0]'h0).toNat : Int)) = true := by rw [bAt_get h0, hq]; simp
              have HQ := Lib.hid hq
              clear hq
              go_wp2_with fail
              go_quiet (fail)
              go_wp2_with fail
              go_roundw
              case rel => exact ⟨k + 1, hlt, by rw [HS.out, if_pos HQ.out]; go_num, by go_num, HBr.out _ _⟩
              case measure => simp [intOf]; omega
            · have g3 : (((L[k]).kind.toNat : Int) == ((kind[0]'h0).toNat : Int)) = false := by
                rw [bAt_get h0, beq_eq_false_iff_ne]
                intro e
                exact hq ((byte_eq _ _).1 e)
              have HQ := Lib.hid hq
              clear hq
              go_wp2_with fail
              go_quiet (fail)
              go_wp2_with fail
              go_roundw
              case rel => exact ⟨k + 1, hlt, by rw [HS.out, if_neg HQ.out]; rfl, by go_num, HBr.out _ _⟩
              case measure => simp [intOf]; omega
          · have hkn : k = L.length := by omega
            subst hkn
            have HBr := Lib.hid (X4.out.trans (hbr.mono X4.out.size))
            clear hbr
            go_wp2_with fail
            go_ret
            exact ⟨by rw [HC.out]; rfl, HBr.out⟩
    · have g2 : ((kind.size : Int) != 1) = true := by rw [bne_iff_ne]; omega
      have HC := Lib.hid (countOf_size (p := p) h2)
      clear h2 hI2
      go_wp2_with fail
      go_ret
      exact ⟨by rw [HC.out]; rfl, HB.out _⟩

set_option maxHeartbeats 800000 in
theorem law_count (p kind : ByteArray) (w : World) : Calls Try.prog 8 #[.string p, .string kind] w fun e w' => e = .returned (.bool true) ∧ Below w.heap.size w w' := by
  by_cases h : 1048576 < p.size
  · have g : decide ((1048576 : Int) < (p.size : Int)) = true := by simp; omega
    go_enter Try.func8, Try.ntmps8
    go_wp2_with fail
    go_ret
    exact ⟨rfl, Below.refl _ _⟩
  · have g : decide ((1048576 : Int) < (p.size : Int)) = false := by simp; omega
    have hp : p.size ≤ 1048576 := by omega
    by_cases h2 : 1048576 < kind.size
    · have g2 : decide ((1048576 : Int) < (kind.size : Int)) = true := by simp; omega
      clear h
      go_enter Try.func8, Try.ntmps8
      go_wp2_with fail
      go_ret
      exact ⟨rfl, Below.refl _ _⟩
    · have g2 : decide ((1048576 : Int) < (kind.size : Int)) = false := by simp; omega
      clear h h2
      go_enter Try.func8, Try.ntmps8
      go_wp2_with fail
      refine (scount_any p kind w hp).mono ?_
      rintro e w1 ⟨rfl, hb1⟩
      go_wp2_with fail
      refine (icount_any p kind w1 hp).mono ?_
      rintro e w2 ⟨rfl, hb2⟩
      have HB := Lib.hid (hb1.trans (hb2.mono hb1.size))
      have hne : (countOf p kind != countOf p kind) = false := by simp
      clear hb1 hb2
      generalize countOf p kind = d at *
      go_wp2_with fail
      go_ret
      exact ⟨rfl, HB.out⟩

/-! ### IsStraight -/
def straightOf (p : ByteArray) : Bool := countOf p ⟨#[63]⟩ == 0 && countOf p ⟨#[42]⟩ == 0
theorem straight_no {p : ByteArray} (h : (countOf p ⟨#[63]⟩ == 0) = false) : straightOf p = false := by unfold straightOf; rw [h]; rfl
theorem straight_yes {p : ByteArray} {b : Bool} (h : (countOf p ⟨#[63]⟩ == 0) = true) (k : (countOf p ⟨#[42]⟩ == 0) = b) : straightOf p = b := by unfold straightOf; rw [h, k]; rfl
set_option maxHeartbeats 800000 in
theorem sstraight_any (p : ByteArray) (w : World) (hp : p.size ≤ 1048576) : Calls Try.prog 25 #[.string p] w fun e w' => e = .returned (.bool (straightOf p)) ∧ Below w.heap.size w w' := by
  go_enter Try.func25, Try.ntmps25
  go_wp2_with fail
  refine (scount_any p ⟨#[63]⟩ w hp).mono ?_
  rintro e w1 ⟨rfl, hb1⟩
  have HB1 := Lib.hid hb1
  clear hb1
  cases hq : (countOf p ⟨#[63]⟩ == 0)
  · have HS := Lib.hid (straight_no hq)
    generalize countOf p ⟨#[63]⟩ = d at *
    go_wp2_with fail
    go_ret
    exact ⟨by rw [HS.out]; rfl, HB1.out⟩
  · have HQ := Lib.hid hq
    generalize countOf p ⟨#[63]⟩ = d at hq ⊢
    go_wp2_with fail
    refine (scount_any p ⟨#[42]⟩ w1 hp).mono ?_
    rintro e w2 ⟨rfl, hb2⟩
    have HB := Lib.hid (HB1.out.trans (hb2.mono HB1.out.size))
    clear hb2
    cases hq2 : (countOf p ⟨#[42]⟩ == 0)
    all_goals
      have HS := Lib.hid (straight_yes HQ.out hq2)
      generalize countOf p ⟨#[42]⟩ = d2 at hq2 ⊢
      go_wp2_with fail
      go_ret
      exact ⟨by rw [HS.out]; rfl, HB.out⟩
set_option maxHeartbeats 800000 in
theorem istraight_any (p : ByteArray) (w : World) (hp : p.size ≤ 1048576) : Calls Try.prog 26 #[.string p] w fun e w' => e = .returned (.bool (straightOf p)) ∧ Below w.heap.size w w' := by
  go_enter Try.func26, Try.ntmps26
  go_wp2_with fail
  refine (icount_any p ⟨#[63]⟩ w hp).mono ?_
  rintro e w1 ⟨rfl, hb1⟩
  have HB1 := Lib.hid hb1
  clear hb1
  cases hq : (countOf p ⟨#[63]⟩ == 0)
  · have HS := Lib.hid (straight_no hq)
    generalize countOf p ⟨#[63]⟩ = d at *
    go_wp2_with fail
    go_ret
    exact ⟨by rw [HS.out]; rfl, HB1.out⟩
  · have HQ := Lib.hid hq
    generalize countOf p ⟨#[63]⟩ = d at hq ⊢
    go_wp2_with fail
    refine (icount_any p ⟨#[42]⟩ w1 hp).mono ?_
    rintro e w2 ⟨rfl, hb2⟩
    have HB := Lib.hid (HB1.out.trans (hb2.mono HB1.out.size))
    clear hb2
    cases hq2 : (countOf p ⟨#[42]⟩ == 0)
    all_goals
      have HS := Lib.hid (straight_yes HQ.out hq2)
      generalize countOf p ⟨#[42]⟩ = d2 at hq2 ⊢
      go_wp2_with fail
      go_ret
      exact ⟨by rw [HS.out]; rfl, HB.out⟩
set_option maxHeartbeats 800000 in
theorem law_straight (p : ByteArray) (w : World) : Calls Try.prog 9 #[.string p] w fun e w' => e = .returned (.bool true) ∧ Below w.heap.size w w' := by
  by_cases h : 1048576 < p.size
  · have g : decide ((1048576 : Int) < (p.size : Int)) = true := by simp; omega
    go_enter Try.func9, Try.ntmps9
    go_wp2_with fail
    go_ret
    exact ⟨rfl, Below.refl _ _⟩
  · have g : decide ((1048576 : Int) < (p.size : Int)) = false := by simp; omega
    have hp : p.size ≤ 1048576 := by omega
    clear h
    go_enter Try.func9, Try.ntmps9
    go_wp2_with fail
    refine (sstraight_any p w hp).mono ?_
    rintro e w1 ⟨rfl, hb1⟩
    go_wp2_with fail
    refine (istraight_any p w1 hp).mono ?_
    rintro e w2 ⟨rfl, hb2⟩
    have HB := Lib.hid (hb1.trans (hb2.mono hb1.size))
    clear hb1 hb2
    cases straightOf p
    all_goals
      go_wp2_with fail
      go_ret
      exact ⟨rfl, HB.out⟩
end Go.Proofs.Ytopgkaekbbaglaa
