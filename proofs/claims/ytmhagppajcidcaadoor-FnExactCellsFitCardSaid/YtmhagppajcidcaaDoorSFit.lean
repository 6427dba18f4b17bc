/- The contract of the reference's 'CellsFit'. -/
import Derived.Test.YtmhagppajcidcaaDoorPFb
import Derived.Deep.RegionWith
import Derived.RegionTactic
import Derived.Handy
import Derived.Outline
import Derived.Deep.DeepCutAuto
import Derived.Deep.CutBlock
import Derived.Deep.QuietTactic
import Derived.BigQuiet
import Derived.BigCall
import Derived.BigRegion
namespace Go.Proofs.YtmhagppajcidcaaDoor.Pr
open Go.RowKit Go.Proofs.YtmhagppajcidcaaDoorW.PrintWords Go.Proofs.YtmhagppajcidcaaDoorW.PrintLast Go.Proofs.YtmhagppajcidcaaDoorW.PrintMore
set_option linter.unusedVariables false
/-- does the value behind i clash with none of the next d behind k? -/
def sfIn (xs : List Int) (lv : List S44) (i : Nat) : Nat → Nat → Bool
  | 0, _ => true
  | d + 1, k => if rd xs i = rd xs k ∧ ((rd_T44 lv k).f2 < 0 ∨ (rd_T44 lv k).f2 > (rd_T44 lv i).f0) then false else sfIn xs lv i d (k + 1)
def sfOut (xs : List Int) (lv : List S44) : Nat → Nat → Bool
  | 0, _ => true
  | d + 1, i => if rd xs i < 0 then false else if sfIn xs lv i i 0 = true then sfOut xs lv d (i + 1) else false
def sfitOf (a0 : ByteArray) (xs : List Int) : Bool :=
  if (toldOf a0).2.2 = true ∧ xs.length = (lvs (toldOf a0).1).length then sfOut xs (lvs (toldOf a0).1) (lvs (toldOf a0).1).length 0 else false
def SRel (w0 : World) (xs : List Int) (lv : List S44) (v30 : Value) (wr : World) : Prop :=
  ∃ i : Nat, i ≤ lv.length ∧ v30 = .int .i64 i ∧ sfOut xs lv lv.length 0 = sfOut xs lv (lv.length - i) i ∧ Below w0.heap.size w0 wr
def SRel2 (w0 : World) (xs : List Int) (lv : List S44) (i : Nat) (v44 : Value) (wr : World) : Prop :=
  ∃ k : Nat, k ≤ i ∧ v44 = .int .i64 k ∧ sfIn xs lv i i 0 = sfIn xs lv i (i - k) k ∧ Below w0.heap.size w0 wr
theorem box44 {w wr : World} {b : Nat} {e : S44} (h : w.heap[b]? = some (.cells #[.int .i64 e.f0, .int .i64 e.f1, .int .i64 e.f2] 44 (0, 0))) (hb : Below w.heap.size w wr) : wr.heap[b]? = some (.cells #[.int .i64 e.f0, .int .i64 e.f1, .int .i64 e.f2] 44 (0, 0)) := (hb.block _ (blk_lt h)).trans h
set_option maxHeartbeats 4000000 in
set_option maxRecDepth 1000000 in
theorem sfit_any (a0 : ByteArray) (A1 : Option Addr) (c1 : Nat) (l1 : List Int) (w : World) (hs : a0.size ≤ 1048576) (hr1 : Kd.C (Kd.int .i64) w A1 l1.length l1) :
    Calls Tryd.prog 14 #[.string a0, .slice A1 l1.length c1] w fun e w' => e = .returned (.bool (sfitOf a0 l1)) ∧ Below w.heap.size w w' := by
  obtain ⟨m, lm, g, hm, hl⟩ := told_good a0
  obtain ⟨k1, hk1⟩ := (l7Read_ev a0 hs).rounds
  obtain ⟨k2, hk2⟩ := (lives_ev g (by omega)).rounds
  have hll := g.lvs_length
  have hgm := g.made
  have hlv : (lvs (toldOf a0).1).length ≤ 600 := by omega
  have HR := Lib.hid hr1
  have HK := Lib.hid (show sfitOf a0 l1 = if (toldOf a0).2.2 = true ∧ l1.length = (lvs (toldOf a0).1).length then sfOut l1 (lvs (toldOf a0).1) (lvs (toldOf a0).1).length 0 else false from rfl)
  clear hr1 hll hgm hm g
  generalize lvs (toldOf a0).1 = lv at *
  generalize (toldOf a0).2.2 = ok at *
  generalize (toldOf a0).1.map conv = evs at *
  clear hl
  go_enter Tryd.func14, Tryd.ntmps14
  go_wp2_with fail
  refine (spec_l7Read.calls k1 a0 _ _ _ hk1).mono ?_
  rintro e w1 ⟨v1, rfl, hr1, hb1⟩
  obtain ⟨Ae, ce, rfl⟩ := Kd.R_slice hr1
  have HC1 := Lib.hid (Kd.R_reads' hr1)
  have HB1 := Lib.hid hb1
  clear hr1 hb1 hk1
  go_wp2_with fail
  refine (spec_l7Lives.calls k2 Ae ce evs _ _ HC1.out.2.2 HC1.out.2.1 hk2).mono ?_
  rintro e w2 ⟨v2, rfl, hr2, hb2⟩
  obtain ⟨Al, cl, rfl⟩ := Kd.R_slice hr2
  have HC := Lib.hid (Kd.R_reads' hr2)
  have HB2 := Lib.hid (HB1.out.trans (hb2.mono HB1.out.size))
  clear hr2 hb2 hk2 HC1
  cases ok with
  | false =>
    go_wp2_with fail
    go_ret
    exact ⟨by rw [HK.out, if_neg (by simp)]; rfl, HB2.out⟩
  | true =>
    by_cases hlen : l1.length = lv.length
    · have hb : ((l1.length : Int) != (lv.length : Int)) = false := bne_eq_false_iff_eq.2 (by omega)
      have HL := Lib.hid hlen
      clear hlen
      go_wp2_with fail
      go_loopw [30] (fun v30 wr => SRel w2 l1 lv v30 wr) (fun v30 _ => lv.length - (intOf v30).toNat)
      case atStart => exact ⟨0, Nat.zero_le _, rfl, rfl, Below.refl _ _⟩
      case round =>
        obtain ⟨i, hi, rfl, hT, hB⟩ := hrel
        have HT := Lib.hid hT
        have HB := Lib.hid hB
        clear hT hB
        by_cases hlt : i < lv.length
        · obtain ⟨ad, hA, hx0, hx1, hx2⟩ := at_T44 (Kd.C_below HC.out.2.2 HB.out) (i : Int) (by omega) (by omega)
          simp only [Int.toNat_natCast] at hx0 hx1 hx2
          subst hA
          have hil : (i : Int) < (l1.length : Int) := by have := HL.out; omega
          obtain ⟨d, hd⟩ : ∃ d, lv.length - i = d + 1 := ⟨lv.length - i - 1, by omega⟩
          have HD := Lib.hid (show sfOut l1 lv lv.length 0 = if rd l1 i < 0 then false else if sfIn l1 lv i i 0 = true then sfOut l1 lv d (i + 1) else false by rw [HT.out, hd, sfOut])
          have HDD := Lib.hid hd
          clear hd HT
          go_upto_region 8 with fail
          have hbx : (wr.alloc (.cells #[.int .i64 (rd_T44 lv i).f0, .int .i64 (rd_T44 lv i).f1, .int .i64 (rd_T44 lv i).f2] 44)).heap[wr.heap.size]? = some (.cells #[.int .i64 (rd_T44 lv i).f0, .int .i64 (rd_T44 lv i).f1, .int .i64 (rd_T44 lv i).f2] 44 (0, 0)) := heap_alloc_new wr _
          have HB4 := Lib.hid (HB.out.trans ((below_a (w := wr) (.cells #[.int .i64 (rd_T44 lv i).f0, .int .i64 (rd_T44 lv i).f1, .int .i64 (rd_T44 lv i).f2] 44)).mono HB.out.size))
          obtain ⟨W4, hW4⟩ : ∃ W4, W4 = wr.alloc (.cells #[.int .i64 (rd_T44 lv i).f0, .int .i64 (rd_T44 lv i).f1, .int .i64 (rd_T44 lv i).f2] 44) := ⟨_, rfl⟩
          rw [← hW4] at hbx HB4 ⊢
          obtain ⟨bk, hbk⟩ : ∃ bk, bk = wr.heap.size := ⟨_, rfl⟩
          rw [← hbk] at hbx ⊢
          have HBX := Lib.hid hbx
          have HB5 := Lib.hid (HB2.out.trans (HB4.out.mono HB2.out.size))
          clear hW4 hx0 hx1 hx2 hbk hbx
          obtain ⟨adx, hAx, hy0⟩ := Kd.at_int (Kd.C_below HR.out HB5.out) (i : Int) (by omega) hil
          simp only [Int.toNat_natCast] at hy0
          subst hAx
          by_cases hneg : rd l1 (i : Int) < 0
          · have bneg : decide (rd l1 (i : Int) < 0) = true := decide_eq_true hneg
            have HS := Lib.hid (HD.out.trans (if_pos hneg))
            clear hneg
            go_wp2_with fail
            go_ret
            exact ⟨by rw [HK.out, if_pos (by simpa using HL.out), HS.out]; rfl, HB5.out⟩
          · have bneg : decide (rd l1 (i : Int) < 0) = false := decide_eq_false hneg
            have HS := Lib.hid (HD.out.trans (if_neg hneg))
            clear hneg HD
            have hicl : i ≤ cl := by have := HC.out.2.1; omega
            have hicl2 : (i : Int) ≤ (cl : Int) := by omega
            have hcl0 : ¬ cl = 0 := by have := HC.out.2.1; omega
            go_wp2_with fail
            go_loopw [44] (fun v44 wr2 => SRel2 W4 l1 lv i v44 wr2) (fun v44 _ => i - (intOf v44).toNat)
            case atStart => exact ⟨0, Nat.zero_le _, rfl, rfl, Below.refl _ _⟩
            case round =>
              obtain ⟨k, hk, rfl, hT2, hBi⟩ := hrel
              have HT2 := Lib.hid hT2
              have HBI := Lib.hid hBi
              clear hT2 hBi
              by_cases hlt2 : k < i
              · obtain ⟨ad2, hA2, hz0, hz1, hz2⟩ := at_T44 (Kd.C_below HC.out.2.2 (HB4.out.trans (HBI.out.mono HB4.out.size))) (k : Int) (by omega) (by omega)
                injection hA2 with hA2
                subst hA2
                simp only [Int.toNat_natCast] at hz0 hz1 hz2
                obtain ⟨d2, hd2⟩ : ∃ d2, i - k = d2 + 1 := ⟨i - k - 1, by omega⟩
                have HD2 := Lib.hid (show sfIn l1 lv i i 0 = if rd l1 i = rd l1 k ∧ ((rd_T44 lv k).f2 < 0 ∨ (rd_T44 lv k).f2 > (rd_T44 lv i).f0) then false else sfIn l1 lv i d2 (k + 1) by rw [HT2.out, hd2, sfIn])
                have HDD2 := Lib.hid (show i - (k + 1) = d2 by omega)
                clear hd2 HT2
                go_upto_region 13 with fail
                have hbm : (wr.alloc (.cells #[.int .i64 (rd_T44 lv k).f0, .int .i64 (rd_T44 lv k).f1, .int .i64 (rd_T44 lv k).f2] 44)).heap[wr.heap.size]? = some (.cells #[.int .i64 (rd_T44 lv k).f0, .int .i64 (rd_T44 lv k).f1, .int .i64 (rd_T44 lv k).f2] 44 (0, 0)) := heap_alloc_new wr _
                have HB6 := Lib.hid (HBI.out.trans ((below_a (w := wr) (.cells #[.int .i64 (rd_T44 lv k).f0, .int .i64 (rd_T44 lv k).f1, .int .i64 (rd_T44 lv k).f2] 44)).mono HBI.out.size))
                obtain ⟨W6, hW6⟩ : ∃ W6, W6 = wr.alloc (.cells #[.int .i64 (rd_T44 lv k).f0, .int .i64 (rd_T44 lv k).f1, .int .i64 (rd_T44 lv k).f2] 44) := ⟨_, rfl⟩
                rw [← hW6] at hbm HB6 ⊢
                obtain ⟨bm, hbmm⟩ : ∃ bm, bm = wr.heap.size := ⟨_, rfl⟩
                rw [← hbmm] at hbm ⊢
                clear hW6 hz0 hz1 hz2 hbmm hy0
                have hl0 : W6.cell? ⟨bk, 0, none⟩ = some (.int .i64 (rd_T44 lv i).f0) := (blk_cell (box44 HBX.out HB6.out) 0).trans rfl
                have hm2 : W6.cell? ⟨bm, 2, none⟩ = some (.int .i64 (rd_T44 lv k).f2) := (blk_cell hbm 2).trans rfl
                have HB7 := Lib.hid (HB5.out.trans (HB6.out.mono HB5.out.size))
                have hkl : (k : Int) < (l1.length : Int) := by omega
                obtain ⟨ady, hAy, hyi⟩ := Kd.at_int (Kd.C_below HR.out HB7.out) (i : Int) (by omega) hil
                obtain ⟨adz, hAz, hyk⟩ := Kd.at_int (Kd.C_below HR.out HB7.out) (k : Int) (by omega) hkl
                injection hAy with hAy
                subst hAy
                injection hAz with hAz
                subst hAz
                simp only [Int.toNat_natCast] at hyi hyk
                clear hbm
                have HB8 := Lib.hid (HB2.out.trans (HB4.out.mono HB2.out.size) |>.trans (HB6.out.mono (HB2.out.trans (HB4.out.mono HB2.out.size)).size))
                by_cases heq : rd l1 (i : Int) = rd l1 (k : Int)
                · have beq : (rd l1 (i : Int) == rd l1 (k : Int)) = true := beq_iff_eq.2 heq
                  have HEQ := Lib.hid heq
                  clear heq
                  by_cases hd1 : (rd_T44 lv (k : Int)).f2 < 0
                  · have bd1 : decide ((rd_T44 lv (k : Int)).f2 < 0) = true := decide_eq_true hd1
                    have HS2 := Lib.hid (HD2.out.trans (if_pos ⟨HEQ.out, .inl hd1⟩))
                    clear hd1
                    go_quiet (fail)
                    go_wp2_with fail
                    go_ret
                    refine ⟨?_, pw_below_drewN HB8.out _⟩
                    rw [HK.out, if_pos (by simpa using HL.out), HS.out, if_neg (by rw [HS2.out]; decide)]
                    rfl
                  · have bd1 : decide ((rd_T44 lv (k : Int)).f2 < 0) = false := decide_eq_false hd1
                    have HD1 := Lib.hid hd1
                    clear hd1
                    by_cases hd3 : (rd_T44 lv (i : Int)).f0 < (rd_T44 lv (k : Int)).f2
                    · have bd3 : decide ((rd_T44 lv (i : Int)).f0 < (rd_T44 lv (k : Int)).f2) = true := decide_eq_true hd3
                      have HS2 := Lib.hid (HD2.out.trans (if_pos ⟨HEQ.out, .inr hd3⟩))
                      clear hd3
                      go_quiet (fail)
                      go_wp2_with fail
                      go_ret
                      refine ⟨?_, pw_below_drewN HB8.out _⟩
                      rw [HK.out, if_pos (by simpa using HL.out), HS.out, if_neg (by rw [HS2.out]; decide)]
                      rfl
                    · have bd3 : decide ((rd_T44 lv (i : Int)).f0 < (rd_T44 lv (k : Int)).f2) = false := decide_eq_false hd3
                      have HS2 := Lib.hid (HD2.out.trans (if_neg (fun h => h.2.elim HD1.out hd3)))
                      clear hd3
                      go_quiet (fail)
                      go_wp2_with fail
                      go_roundw
                      case rel => exact ⟨k + 1, by omega, by go_num, by rw [HDD2.out]; exact HS2.out, pw_below_drewN HB6.out _⟩
                      case measure => simp [intOf]; omega
                · have beq : (rd l1 (i : Int) == rd l1 (k : Int)) = false := beq_eq_false_iff_ne.2 heq
                  have HS2 := Lib.hid (HD2.out.trans (if_neg (fun h => heq h.1)))
                  clear heq
                  go_quiet (fail)
                  go_wp2_with fail
                  go_roundw
                  case rel => exact ⟨k + 1, by omega, by go_num, by rw [HDD2.out]; exact HS2.out, pw_below_drewN HB6.out _⟩
                  case measure => simp [intOf]; omega
              · have hki : k = i := by omega
                subst hki
                have HE := Lib.hid (show sfIn l1 lv k k 0 = true by rw [HT2.out, Nat.sub_self, sfIn])
                clear HT2
                go_wp2_with fail
                refine ⟨⟨k + 1, by omega, by go_num, ?_, HB4.out.trans (HBI.out.mono HB4.out.size)⟩, by simp [intOf]; omega⟩
                rw [HS.out, if_pos HE.out, show lv.length - (k + 1) = d by have := HDD.out; omega]
        · have hin : i = lv.length := by omega
          subst hin
          have HE := Lib.hid (show sfOut l1 lv lv.length 0 = true by rw [HT.out, Nat.sub_self, sfOut])
          clear HT
          go_wp2_with fail
          go_ret
          exact ⟨by rw [HK.out, if_pos (by simpa using HL.out), HE.out]; rfl, HB2.out.trans (HB.out.mono HB2.out.size)⟩
    · have hb : ((l1.length : Int) != (lv.length : Int)) = true := bne_iff_ne.2 (by omega)
      have HL := Lib.hid hlen
      clear hlen
      go_wp2_with fail
      go_ret
      exact ⟨by rw [HK.out, if_neg (fun h => HL.out h.2)]; rfl, HB2.out⟩
def spec_CellsFit.f (a0 : ByteArray) (l1 : List Int) : Option Bool := if a0.size ≤ 1048576 then some (sfitOf a0 l1) else none
theorem spec_CellsFit.calls (a0 : ByteArray) (A1 : Option Addr) (c1 : Nat) (l1 : List Int) (r : Bool) (w : World) (hr1 : Kd.C (Kd.int .i64) w A1 l1.length l1) (hc1 : l1.length ≤ c1) (h : spec_CellsFit.f a0 l1 = some r) :
    Calls Tryd.prog 14 #[.string a0, .slice A1 l1.length c1] w fun e w' => e = .returned (.bool r) ∧ Below w.heap.size w w' := by
  unfold spec_CellsFit.f at h
  split at h
  · rename_i hh
    injection h with h
    subst h
    exact sfit_any a0 A1 c1 l1 w hh hr1
  · cases h
end Go.Proofs.YtmhagppajcidcaaDoor.Pr
