/- MFnAlivec: texts of this proof, joined. -/
import Derived.Test.YtndjbnkmhpbnpaaGreatDoorCa
import Derived.Test.YtndjbnkmhpbnpaaGreatDoorCb
import Derived.Test.YtndjbnkmhpbnpaaGreatDoorCc
import Derived.Test.YtndjbnkmhpbnpaaGreatDoorCd
import Derived.Test.YtndjbnkmhpbnpaaGreatDoorCe
import Derived.Test.YtndjbnkmhpbnpaaGreatDoorCf
import Derived.Test.YtndjbnkmhpbnpaaGreatDoorCg
import Derived.Test.YtndjbnkmhpbnpaaGreatDoorCh
import Derived.Test.YtndjbnkmhpbnpaaGreatDoorCi
import Derived.Test.YtndjbnkmhpbnpaaGreatDoorCj
import Derived.Test.YtndjbnkmhpbnpaaGreatDoorCk
import Derived.Test.YtndjbnkmhpbnpaaGreatDoorCl
import Derived.Test.YtndjbnkmhpbnpaaGreatDoorMFnAlivea
import Derived.Test.YtndjbnkmhpbnpaaGreatDoorMFnAliveb
namespace Go.Proofs.YtndjbnkmhpbnpaaGreatDoor.Pr
open Go.RowKit Go.Proofs.YtndjbnkmhpbnpaaGreatDoorW.PrintWords Go.Proofs.YtndjbnkmhpbnpaaGreatDoorW.PrintLast Go.Proofs.YtndjbnkmhpbnpaaGreatDoorW.PrintMore
attribute [local go_sem] max2_int min2_int max_two min_two max_three min_three max_four min_four   -- for this text's walks alone
set_option linter.unusedVariables false
set_option linter.unusedSimpArgs false
def spec_AreNested.l0 : Nat → Bool → List Int → List (S63) → Int → Int → Option (Bool)
 | 0, _, _, _, _, _ => none
 | k + 1, x4, x5, x14, x15, x16 => if x16 < x15 then (if 0 ≤ x16 then (if x16 < (x14.length : Int) then (if ((rd_T63 x14 x16).f0) = 43 then (if x5.length < 17592186044416 then (spec_AreNested.l0 k x4 (x5 ++ [(rd_T63 x14 x16).f1]) x14 x15 (wrap64 (x16 + 1))) else (none)) else (if ((rd_T63 x14 x16).f0) = 45 then (if 0 ≤ (wrap64 ((x5.length : Int) - 1)) then (if (wrap64 ((x5.length : Int) - 1)) < (x5.length : Int) then (if (rd x5 (wrap64 ((x5.length : Int) - 1))) = ((rd_T63 x14 x16).f1) then (if (wrap64 ((x5.length : Int) - 1)) ≤ (x5.length : Int) then (spec_AreNested.l0 k x4 (x5.take ((wrap64 ((x5.length : Int) - 1)) : Int).toNat) x14 x15 (wrap64 (x16 + 1))) else (none)) else (some false)) else (none)) else (none)) else (spec_AreNested.l0 k x4 x5 x14 x15 (wrap64 (x16 + 1))))) else (none)) else (none)) else (some x4)
def spec_AreNested.f (k : Nat) (a0 : ByteArray) : Option (Bool) := (spec_l7Read.f k a0).bind fun bt713 => (spec_AreNested.l0 k bt713.2 (([] : List Int)) bt713.1 (bt713.1.length : Int) 0)
set_option maxHeartbeats 8000000 in
set_option maxRecDepth 100000 in
theorem spec_AreNested.calls (k : Nat) (a0 : ByteArray) (r : Bool) (w : World) (h : spec_AreNested.f k a0 = some r) :
  Calls Tryz.prog 45 #[.string a0] w fun e w' => e = .returned (.bool r) ∧ Below w.heap.size w w' := by
 have hu63 := Tryz.underlying63
 have HB := Az.mk (Below.refl w.heap.size w)
 have H : ((spec_l7Read.f k a0).bind fun bt713 => (spec_AreNested.l0 k bt713.2 (([] : List Int)) bt713.1 (bt713.1.length : Int) 0)) = some r := h
 clear h
 replace H := Option.bind_eq_some_iff.mp H
 obtain ⟨⟨t713, t714⟩, A20, H⟩ := H
 replace H : (spec_AreNested.l0 k t714 (([] : List Int)) t713 (t713.length : Int) 0) = some r := H
 have A2 := Az.mk A20
 clear A20
 obtain ⟨y717, hy717⟩ : ∃ y_ : List Int, y_ = (([] : List Int)) := ⟨_, rfl⟩
 replace H : (spec_AreNested.l0 k t714 y717 t713 (t713.length : Int) 0) = some r := by first | (rw [hy717]; with_reducible exact H) | (have H2_ := (Option.bind_some _ _).symm.trans H; rw [hy717]; with_reducible exact H2_) | (have H2_ := (Option.bind_some _ _).symm.trans H; with_reducible exact H2_) | with_reducible exact H | (rw [hy717]; exact H) | exact H
 have Ny717 := Az.mk hy717
 clear hy717
 have H' := Az.mk H
 clear H
 go_enter Tryz.func45, Tryz.ntmps45
 go_wp2_with (first | (go_at_call 54; (with_reducible refine (spec_l7Read.calls k a0 t713 t714 _ A2.out).mono ?_); rintro e w3 ⟨v715, rfl, ho0, hb⟩; have n0_ := Az.mk (Kd.R_lower ho0 (bZ (by repeat first|exact HB.out|apply bA|apply bN|apply bD))); have n1_ := Az.mk (bS (by repeat first|exact HB.out|apply bA|apply bN|apply bD) hb); clear HB; have HO716 := n0_; have HB := n1_; clear n0_ n1_; (try clear hb); (try clear hb2); (try clear hk); (try clear hi); (try clear ho0)) | ((with_reducible refine gate_dst (N := 13) rfl ?_); refine Kd.R_lit (Kd.int .i64) _ 3 ?hg (N := 13) ?hd (xs := ([] : List Int)) (inner := []) (ok := fun _ => True) (okp := fun _ => True) ?hr ?hp (fun _ hk => hk) trivial (Below.refl _ _) (Nat.le_refl _) (by simp) ?_; (case hd => rfl); (case hg => rfl); (case hr => first | (go_simp; done) | (go_simp; rfl)); (case hp => exact (Reps.none _ _)); intro v718 w4 ho5 hb hg_ hnew_; clear hg_ hnew_; (first | rw [← Ny717.out] at ho5 | (simp only [Int.reduceToNat] at ho5; rw [← Ny717.out] at ho5)); have n0_ := Az.mk (Kd.Rb (by (with_reducible repeat first|apply Kd.Ra|apply Kd.Rn|apply Kd.Rw); exact HO716.out) hb); have n1_ := Az.mk (Kd.R_lower ho5 (bZ (by repeat first|exact HB.out|apply bA|apply bN|apply bD))); have n2_ := Az.mk (bS (by repeat first|exact HB.out|apply bA|apply bN|apply bD) hb); clear HO716; clear HB; have HO716 := n0_; have HO719 := n1_; have HB := n2_; clear n0_ n1_ n2_; clear hb ho5; obtain ⟨Ao6, co6, eo6⟩ := Kd.R_slice HO716.out; subst eo6))
 repeat (go_quiet (first | (go_at_call 54; (with_reducible refine (spec_l7Read.calls k a0 t713 t714 _ A2.out).mono ?_); rintro e w3 ⟨v715, rfl, ho0, hb⟩; have n0_ := Az.mk (Kd.R_lower ho0 (bZ (by repeat first|exact HB.out|apply bA|apply bN|apply bD))); have n1_ := Az.mk (bS (by repeat first|exact HB.out|apply bA|apply bN|apply bD) hb); clear HB; have HO716 := n0_; have HB := n1_; clear n0_ n1_; (try clear hb); (try clear hb2); (try clear hk); (try clear hi); (try clear ho0)) | ((with_reducible refine gate_dst (N := 13) rfl ?_); refine Kd.R_lit (Kd.int .i64) _ 3 ?hg (N := 13) ?hd (xs := ([] : List Int)) (inner := []) (ok := fun _ => True) (okp := fun _ => True) ?hr ?hp (fun _ hk => hk) trivial (Below.refl _ _) (Nat.le_refl _) (by simp) ?_; (case hd => rfl); (case hg => rfl); (case hr => first | (go_simp; done) | (go_simp; rfl)); (case hp => exact (Reps.none _ _)); intro v718 w4 ho5 hb hg_ hnew_; clear hg_ hnew_; (first | rw [← Ny717.out] at ho5 | (simp only [Int.reduceToNat] at ho5; rw [← Ny717.out] at ho5)); have n0_ := Az.mk (Kd.Rb (by (with_reducible repeat first|apply Kd.Ra|apply Kd.Rn|apply Kd.Rw); exact HO716.out) hb); have n1_ := Az.mk (Kd.R_lower ho5 (bZ (by repeat first|exact HB.out|apply bA|apply bN|apply bD))); have n2_ := Az.mk (bS (by repeat first|exact HB.out|apply bA|apply bN|apply bD) hb); clear HO716; clear HB; have HO716 := n0_; have HO719 := n1_; have HB := n2_; clear n0_ n1_ n2_; clear hb ho5; obtain ⟨Ao6, co6, eo6⟩ := Kd.R_slice HO716.out; subst eo6)); try go_wp2_with (first | (go_at_call 54; (with_reducible refine (spec_l7Read.calls k a0 t713 t714 _ A2.out).mono ?_); rintro e w3 ⟨v715, rfl, ho0, hb⟩; have n0_ := Az.mk (Kd.R_lower ho0 (bZ (by repeat first|exact HB.out|apply bA|apply bN|apply bD))); have n1_ := Az.mk (bS (by repeat first|exact HB.out|apply bA|apply bN|apply bD) hb); clear HB; have HO716 := n0_; have HB := n1_; clear n0_ n1_; (try clear hb); (try clear hb2); (try clear hk); (try clear hi); (try clear ho0)) | ((with_reducible refine gate_dst (N := 13) rfl ?_); refine Kd.R_lit (Kd.int .i64) _ 3 ?hg (N := 13) ?hd (xs := ([] : List Int)) (inner := []) (ok := fun _ => True) (okp := fun _ => True) ?hr ?hp (fun _ hk => hk) trivial (Below.refl _ _) (Nat.le_refl _) (by simp) ?_; (case hd => rfl); (case hg => rfl); (case hr => first | (go_simp; done) | (go_simp; rfl)); (case hp => exact (Reps.none _ _)); intro v718 w4 ho5 hb hg_ hnew_; clear hg_ hnew_; (first | rw [← Ny717.out] at ho5 | (simp only [Int.reduceToNat] at ho5; rw [← Ny717.out] at ho5)); have n0_ := Az.mk (Kd.Rb (by (with_reducible repeat first|apply Kd.Ra|apply Kd.Rn|apply Kd.Rw); exact HO716.out) hb); have n1_ := Az.mk (Kd.R_lower ho5 (bZ (by repeat first|exact HB.out|apply bA|apply bN|apply bD))); have n2_ := Az.mk (bS (by repeat first|exact HB.out|apply bA|apply bN|apply bD) hb); clear HO716; clear HB; have HO716 := n0_; have HO719 := n1_; have HB := n2_; clear n0_ n1_ n2_; clear hb ho5; obtain ⟨Ao6, co6, eo6⟩ := Kd.R_slice HO716.out; subst eo6)))
 go_loopg [5, 16] k (fun kq v5 v16 w' => ∃ (x5_1 : List Int) (x16_1 : Int), v16 = .int .i64 x16_1 ∧ Az (spec_AreNested.l0 kq t714 x5_1 t713 (t713.length : Int) x16_1 = some r) ∧ Az (kq ≤ k) ∧ Az (Kd.R (Kd.int .i64) 3 w' w.heap.size (fun _ => True) v5 x5_1) ∧ Az (Kd.R k63 63 w' w.heap.size (fun _ => True) (.slice Ao6 t713.length co6) t713) ∧ Az (Below w.heap.size w w'))
 case atStart => exact ⟨(y717), (0), (by first | rfl | (simp; done) | (simp [*]; done)), H', ⟨Nat.le_refl _⟩, ⟨by (with_reducible repeat first|apply Kd.Ra|apply Kd.Rn|apply Kd.Rw); exact HO719.out⟩, ⟨by (with_reducible repeat first|apply Kd.Ra|apply Kd.Rn|apply Kd.Rw); exact HO716.out⟩, ⟨by repeat (first | (with_reducible first|exact HB.out|apply bA|apply bN|apply bD) | exact HB.out)⟩⟩
 case round =>
  clear H'
  try clear p2
  try clear c4
  obtain ⟨x5_1, x16_1, rfl, HA, HK1, HO_5, HO_14, HB⟩ := hrel
  cases gk with
  | zero => exact absurd HA.out (by simp [spec_AreNested.l0])
  | succ k1 =>
   have H := HA.out
   clear HA
   simp only [spec_AreNested.l0] at H
   by_cases c7 : x16_1 < (t713.length : Int)
   ·rw [if_pos c7] at H
    have c7b0 : decide (x16_1 < (t713.length : Int)) = true := decide_eq_true c7
    clear c7
    by_cases c8 : 0 ≤ x16_1
    ·rw [if_pos c8] at H
     have c8b0 : decide (0 ≤ x16_1) = true := decide_eq_true c8
     clear c8
     by_cases c9 : x16_1 < (t713.length : Int)
     ·rw [if_pos c9] at H
      have c9b0 : decide (x16_1 < (t713.length : Int)) = true := decide_eq_true c9
      clear c9
      by_cases c10 : ((rd_T63 t713 x16_1).f0) = 43
      ·rw [if_pos c10] at H
       have c10b0 : (((rd_T63 t713 x16_1).f0) == 43) = true := beq_iff_eq.mpr c10
       have c10b1 : (((rd_T63 t713 x16_1).f0) != 43) = false := bne_eq_false_iff_eq.mpr c10
       clear c10
       by_cases c11 : x5_1.length < 17592186044416
       ·rw [if_pos c11] at H
        have LMc11 := Az.mk c11
        clear c11
        obtain ⟨y722, hy722⟩ : ∃ y_ : List Int, y_ = (x5_1 ++ [(rd_T63 t713 x16_1).f1]) := ⟨_, rfl⟩
        replace H : (spec_AreNested.l0 k1 t714 y722 t713 (t713.length : Int) (wrap64 (x16_1 + 1))) = some r := by first | (rw [hy722]; with_reducible exact H) | (have H2_ := (Option.bind_some _ _).symm.trans H; rw [hy722]; with_reducible exact H2_) | (have H2_ := (Option.bind_some _ _).symm.trans H; with_reducible exact H2_) | with_reducible exact H | (rw [hy722]; exact H) | exact H
        have Ny722 := Az.mk hy722
        clear hy722
        have H' := Az.mk H
        clear H
        have p720 : 0 ≤ (x16_1 : Int) := of_decide_eq_true (by first|(with_reducible assumption)|assumption)
        have q720 : x16_1 < (t713.length : Int) := of_decide_eq_true (by first|(with_reducible assumption)|assumption)
        obtain ⟨ad720, e720, hx720_0, hx720_1⟩ := at_T63 (Kd.R_reads' HO_14.out).2.2 x16_1 p720 q720
        cases e720
        replace p720 := eq_true p720
        replace q720 := eq_true q720
        go_wp2_with (first | ((with_reducible refine gate_dst (N := 7) rfl ?_); refine box_event ?hg (N := 7) ?hd (cs := #[.int .u8 0, .int .i64 0]) (t := 63) ?hr ?_; (case hd => rfl); (case hg => rfl); (case hr => first | (go_simp; done) | (go_simp; rfl)); intro gb721 hg w12 hbox hb; have n0_ := Az.mk (Kd.Rb (by (with_reducible repeat first|apply Kd.Ra|apply Kd.Rn|apply Kd.Rw); exact HO_5.out) hb); have n1_ := Az.mk (Kd.Rb (Kd.R_elderB (by (with_reducible repeat first|apply Kd.Ra|apply Kd.Rn|apply Kd.Rw); exact HO_14.out) gb721 (Nat.le_of_eq hg.symm)) hb); have n2_ := Az.mk (bS (by repeat first|exact HB.out|apply bA|apply bN|apply bD) hb); have n3_ := Az.mk (hbox); have n4_ := Az.mk ((by rw [hg]; exact (bZ (by repeat first|exact HB.out|apply bA|apply bN|apply bD)) : w.heap.size ≤ gb721)); have n5_ := Az.mk ((by rw [hg]; exact (bZ (by repeat first|exact HB.out|apply bA|apply bN|apply bD)) : w.heap.size ≤ gb721)); clear HO_5; clear HO_14; clear HB; have HO_5 := n0_; have HO_14 := n1_; have HB := n2_; have BK721 := n3_; have GW721 := n4_; have GE721 := n5_; clear n0_ n1_ n2_ n3_ n4_ n5_; clear hb hbox hg; have hcz13_0 : w12.cell? ⟨gb721, 0, none⟩ = some (.int .u8 0) := (blk_cell BK721.out 0).trans rfl; have hcz13_1 : w12.cell? ⟨gb721, 1, none⟩ = some (.int .i64 0) := (blk_cell BK721.out 1).trans rfl; have hfz13_0 := blk_frozen BK721.out 0; have hfz13_1 := blk_frozen BK721.out 1) | ((with_reducible refine gate_builtin (b := .append) (xs := #[.tmp 24, .tmp 27]) rfl ?_); at_builtin; refine Kd.R_append (Kd.int .i64) (w0 := w) w.heap.size rfl (.tmp 24) (.tmp 27) 33 3 (.int .i64 0) 8 rfl Tryz.underlying33 info3 rfl (by decide) (by omega) u5 x5_1 ((rd_T63 t713 x16_1).f1) [.int .i64 ((rd_T63 t713 x16_1).f1)] (fun _ => True) (fun _ => False) rfl (by first | (go_simp; done) | (go_simp; rfl)) ?aP (fun _ hk => hk.elim) ?aF ?aO ?aB ?aS ?aL ?_; (case aP => exact rfl); (case aB => exact (by repeat (first | (with_reducible first|exact HB.out|apply bA|apply bN|apply bD | refine below_set ?_ GE721.out) | exact HB.out))); (case aF => exact (fun _ _ => trivial)); (case aO => exact (by (with_reducible repeat first|apply Kd.Ra|apply Kd.Rn|apply Kd.Rw); exact Kd.R_mono (Kd.R_far (p := ⟨gb721, 1, none⟩) (Kd.R_far (p := ⟨gb721, 0, none⟩) (Kd.R_types HO_5.out BK721.out (by decide)) (fun _ hk => hk.2) (.int .u8 ((rd_T63 t713 x16_1).f0))) (fun _ hk => hk.2) (.int .i64 ((rd_T63 t713 x16_1).f1))) (fun _ hk => trivial))); (case aS => exact (bZ (by repeat (first | (with_reducible first|exact HB.out|apply bA|apply bN|apply bD | refine below_set ?_ GE721.out) | exact HB.out)))); (case aL => have := LMc11.out; omega); intro v723 w14 ho hb hg hat; rw [← Ny722.out] at ho; have n0_ := Az.mk (Kd.R_over' (by (with_reducible repeat first|apply Kd.Ra|apply Kd.Rn|apply Kd.Rw); exact (Kd.R_mono (Kd.R_far (p := ⟨gb721, 1, none⟩) (Kd.R_far (p := ⟨gb721, 0, none⟩) (Kd.R_mono HO_14.out (fun k_ hk => (⟨hk, hk.2⟩ : _ ∧ k_ ≠ gb721))) (fun _ hk => hk.2) (.int .u8 ((rd_T63 t713 x16_1).f0))) (fun _ hk => hk.2) (.int .i64 ((rd_T63 t713 x16_1).f1))) (fun _ h_ => h_.1))) (Kd.R_typed (by (with_reducible repeat first|apply Kd.Ra|apply Kd.Rn|apply Kd.Rw); exact (Kd.R_mono (Kd.R_far (p := ⟨gb721, 1, none⟩) (Kd.R_far (p := ⟨gb721, 0, none⟩) (Kd.R_types HO_5.out BK721.out (by decide)) (fun _ hk => hk.2) (.int .u8 ((rd_T63 t713 x16_1).f0))) (fun _ hk => hk.2) (.int .i64 ((rd_T63 t713 x16_1).f1))) (fun _ h_ => h_.1)))) (by decide) hg); have n1_ := Az.mk (blk_grown (g := gb721) (o := .cells #[.int .u8 ((rd_T63 t713 x16_1).f0), .int .i64 ((rd_T63 t713 x16_1).f1)] 63 (0, 0)) (by (with_reducible repeat first|refine blN ?_ _|refine bl1 ?_|refine blA ?_ _); refine blk_put (cs := #[.int .u8 ((rd_T63 t713 x16_1).f0), .int .i64 0]) ?_ 1 _ rfl; (with_reducible repeat first|refine blN ?_ _|refine bl1 ?_|refine blA ?_ _); refine blk_put (cs := #[.int .u8 0, .int .i64 0]) ?_ 0 _ rfl; (with_reducible repeat first|refine blN ?_ _|refine bl1 ?_|refine blA ?_ _); exact BK721.out) hg (Kd.R_ne HO_5.out BK721.out (by decide))); have n2_ := Az.mk (hb); have n3_ := Az.mk (ho); clear HO_14; clear BK721; clear HB; clear HO_5; have HO_14 := n0_; have BK721 := n1_; have HB := n2_; have HO724 := n3_; clear n0_ n1_ n2_ n3_; clear ho hb hg hat))
        repeat (go_quiet (first | ((with_reducible refine gate_dst (N := 7) rfl ?_); refine box_event ?hg (N := 7) ?hd (cs := #[.int .u8 0, .int .i64 0]) (t := 63) ?hr ?_; (case hd => rfl); (case hg => rfl); (case hr => first | (go_simp; done) | (go_simp; rfl)); intro gb721 hg w12 hbox hb; have n0_ := Az.mk (Kd.Rb (by (with_reducible repeat first|apply Kd.Ra|apply Kd.Rn|apply Kd.Rw); exact HO_5.out) hb); have n1_ := Az.mk (Kd.Rb (Kd.R_elderB (by (with_reducible repeat first|apply Kd.Ra|apply Kd.Rn|apply Kd.Rw); exact HO_14.out) gb721 (Nat.le_of_eq hg.symm)) hb); have n2_ := Az.mk (bS (by repeat first|exact HB.out|apply bA|apply bN|apply bD) hb); have n3_ := Az.mk (hbox); have n4_ := Az.mk ((by rw [hg]; exact (bZ (by repeat first|exact HB.out|apply bA|apply bN|apply bD)) : w.heap.size ≤ gb721)); have n5_ := Az.mk ((by rw [hg]; exact (bZ (by repeat first|exact HB.out|apply bA|apply bN|apply bD)) : w.heap.size ≤ gb721)); clear HO_5; clear HO_14; clear HB; have HO_5 := n0_; have HO_14 := n1_; have HB := n2_; have BK721 := n3_; have GW721 := n4_; have GE721 := n5_; clear n0_ n1_ n2_ n3_ n4_ n5_; clear hb hbox hg; have hcz13_0 : w12.cell? ⟨gb721, 0, none⟩ = some (.int .u8 0) := (blk_cell BK721.out 0).trans rfl; have hcz13_1 : w12.cell? ⟨gb721, 1, none⟩ = some (.int .i64 0) := (blk_cell BK721.out 1).trans rfl; have hfz13_0 := blk_frozen BK721.out 0; have hfz13_1 := blk_frozen BK721.out 1) | ((with_reducible refine gate_builtin (b := .append) (xs := #[.tmp 24, .tmp 27]) rfl ?_); at_builtin; refine Kd.R_append (Kd.int .i64) (w0 := w) w.heap.size rfl (.tmp 24) (.tmp 27) 33 3 (.int .i64 0) 8 rfl Tryz.underlying33 info3 rfl (by decide) (by omega) u5 x5_1 ((rd_T63 t713 x16_1).f1) [.int .i64 ((rd_T63 t713 x16_1).f1)] (fun _ => True) (fun _ => False) rfl (by first | (go_simp; done) | (go_simp; rfl)) ?aP (fun _ hk => hk.elim) ?aF ?aO ?aB ?aS ?aL ?_; (case aP => exact rfl); (case aB => exact (by repeat (first | (with_reducible first|exact HB.out|apply bA|apply bN|apply bD | refine below_set ?_ GE721.out) | exact HB.out))); (case aF => exact (fun _ _ => trivial)); (case aO => exact (by (with_reducible repeat first|apply Kd.Ra|apply Kd.Rn|apply Kd.Rw); exact Kd.R_mono (Kd.R_far (p := ⟨gb721, 1, none⟩) (Kd.R_far (p := ⟨gb721, 0, none⟩) (Kd.R_types HO_5.out BK721.out (by decide)) (fun _ hk => hk.2) (.int .u8 ((rd_T63 t713 x16_1).f0))) (fun _ hk => hk.2) (.int .i64 ((rd_T63 t713 x16_1).f1))) (fun _ hk => trivial))); (case aS => exact (bZ (by repeat (first | (with_reducible first|exact HB.out|apply bA|apply bN|apply bD | refine below_set ?_ GE721.out) | exact HB.out)))); (case aL => have := LMc11.out; omega); intro v723 w14 ho hb hg hat; rw [← Ny722.out] at ho; have n0_ := Az.mk (Kd.R_over' (by (with_reducible repeat first|apply Kd.Ra|apply Kd.Rn|apply Kd.Rw); exact (Kd.R_mono (Kd.R_far (p := ⟨gb721, 1, none⟩) (Kd.R_far (p := ⟨gb721, 0, none⟩) (Kd.R_mono HO_14.out (fun k_ hk => (⟨hk, hk.2⟩ : _ ∧ k_ ≠ gb721))) (fun _ hk => hk.2) (.int .u8 ((rd_T63 t713 x16_1).f0))) (fun _ hk => hk.2) (.int .i64 ((rd_T63 t713 x16_1).f1))) (fun _ h_ => h_.1))) (Kd.R_typed (by (with_reducible repeat first|apply Kd.Ra|apply Kd.Rn|apply Kd.Rw); exact (Kd.R_mono (Kd.R_far (p := ⟨gb721, 1, none⟩) (Kd.R_far (p := ⟨gb721, 0, none⟩) (Kd.R_types HO_5.out BK721.out (by decide)) (fun _ hk => hk.2) (.int .u8 ((rd_T63 t713 x16_1).f0))) (fun _ hk => hk.2) (.int .i64 ((rd_T63 t713 x16_1).f1))) (fun _ h_ => h_.1)))) (by decide) hg); have n1_ := Az.mk (blk_grown (g := gb721) (o := .cells #[.int .u8 ((rd_T63 t713 x16_1).f0), .int .i64 ((rd_T63 t713 x16_1).f1)] 63 (0, 0)) (by (with_reducible repeat first|refine blN ?_ _|refine bl1 ?_|refine blA ?_ _); refine blk_put (cs := #[.int .u8 ((rd_T63 t713 x16_1).f0), .int .i64 0]) ?_ 1 _ rfl; (with_reducible repeat first|refine blN ?_ _|refine bl1 ?_|refine blA ?_ _); refine blk_put (cs := #[.int .u8 0, .int .i64 0]) ?_ 0 _ rfl; (with_reducible repeat first|refine blN ?_ _|refine bl1 ?_|refine blA ?_ _); exact BK721.out) hg (Kd.R_ne HO_5.out BK721.out (by decide))); have n2_ := Az.mk (hb); have n3_ := Az.mk (ho); clear HO_14; clear BK721; clear HB; clear HO_5; have HO_14 := n0_; have BK721 := n1_; have HB := n2_; have HO724 := n3_; clear n0_ n1_ n2_ n3_; clear ho hb hg hat)); try go_wp2_with (first | ((with_reducible refine gate_dst (N := 7) rfl ?_); refine box_event ?hg (N := 7) ?hd (cs := #[.int .u8 0, .int .i64 0]) (t := 63) ?hr ?_; (case hd => rfl); (case hg => rfl); (case hr => first | (go_simp; done) | (go_simp; rfl)); intro gb721 hg w12 hbox hb; have n0_ := Az.mk (Kd.Rb (by (with_reducible repeat first|apply Kd.Ra|apply Kd.Rn|apply Kd.Rw); exact HO_5.out) hb); have n1_ := Az.mk (Kd.Rb (Kd.R_elderB (by (with_reducible repeat first|apply Kd.Ra|apply Kd.Rn|apply Kd.Rw); exact HO_14.out) gb721 (Nat.le_of_eq hg.symm)) hb); have n2_ := Az.mk (bS (by repeat first|exact HB.out|apply bA|apply bN|apply bD) hb); have n3_ := Az.mk (hbox); have n4_ := Az.mk ((by rw [hg]; exact (bZ (by repeat first|exact HB.out|apply bA|apply bN|apply bD)) : w.heap.size ≤ gb721)); have n5_ := Az.mk ((by rw [hg]; exact (bZ (by repeat first|exact HB.out|apply bA|apply bN|apply bD)) : w.heap.size ≤ gb721)); clear HO_5; clear HO_14; clear HB; have HO_5 := n0_; have HO_14 := n1_; have HB := n2_; have BK721 := n3_; have GW721 := n4_; have GE721 := n5_; clear n0_ n1_ n2_ n3_ n4_ n5_; clear hb hbox hg; have hcz13_0 : w12.cell? ⟨gb721, 0, none⟩ = some (.int .u8 0) := (blk_cell BK721.out 0).trans rfl; have hcz13_1 : w12.cell? ⟨gb721, 1, none⟩ = some (.int .i64 0) := (blk_cell BK721.out 1).trans rfl; have hfz13_0 := blk_frozen BK721.out 0; have hfz13_1 := blk_frozen BK721.out 1) | ((with_reducible refine gate_builtin (b := .append) (xs := #[.tmp 24, .tmp 27]) rfl ?_); at_builtin; refine Kd.R_append (Kd.int .i64) (w0 := w) w.heap.size rfl (.tmp 24) (.tmp 27) 33 3 (.int .i64 0) 8 rfl Tryz.underlying33 info3 rfl (by decide) (by omega) u5 x5_1 ((rd_T63 t713 x16_1).f1) [.int .i64 ((rd_T63 t713 x16_1).f1)] (fun _ => True) (fun _ => False) rfl (by first | (go_simp; done) | (go_simp; rfl)) ?aP (fun _ hk => hk.elim) ?aF ?aO ?aB ?aS ?aL ?_; (case aP => exact rfl); (case aB => exact (by repeat (first | (with_reducible first|exact HB.out|apply bA|apply bN|apply bD | refine below_set ?_ GE721.out) | exact HB.out))); (case aF => exact (fun _ _ => trivial)); (case aO => exact (by (with_reducible repeat first|apply Kd.Ra|apply Kd.Rn|apply Kd.Rw); exact Kd.R_mono (Kd.R_far (p := ⟨gb721, 1, none⟩) (Kd.R_far (p := ⟨gb721, 0, none⟩) (Kd.R_types HO_5.out BK721.out (by decide)) (fun _ hk => hk.2) (.int .u8 ((rd_T63 t713 x16_1).f0))) (fun _ hk => hk.2) (.int .i64 ((rd_T63 t713 x16_1).f1))) (fun _ hk => trivial))); (case aS => exact (bZ (by repeat (first | (with_reducible first|exact HB.out|apply bA|apply bN|apply bD | refine below_set ?_ GE721.out) | exact HB.out)))); (case aL => have := LMc11.out; omega); intro v723 w14 ho hb hg hat; rw [← Ny722.out] at ho; have n0_ := Az.mk (Kd.R_over' (by (with_reducible repeat first|apply Kd.Ra|apply Kd.Rn|apply Kd.Rw); exact (Kd.R_mono (Kd.R_far (p := ⟨gb721, 1, none⟩) (Kd.R_far (p := ⟨gb721, 0, none⟩) (Kd.R_mono HO_14.out (fun k_ hk => (⟨hk, hk.2⟩ : _ ∧ k_ ≠ gb721))) (fun _ hk => hk.2) (.int .u8 ((rd_T63 t713 x16_1).f0))) (fun _ hk => hk.2) (.int .i64 ((rd_T63 t713 x16_1).f1))) (fun _ h_ => h_.1))) (Kd.R_typed (by (with_reducible repeat first|apply Kd.Ra|apply Kd.Rn|apply Kd.Rw); exact (Kd.R_mono (Kd.R_far (p := ⟨gb721, 1, none⟩) (Kd.R_far (p := ⟨gb721, 0, none⟩) (Kd.R_types HO_5.out BK721.out (by decide)) (fun _ hk => hk.2) (.int .u8 ((rd_T63 t713 x16_1).f0))) (fun _ hk => hk.2) (.int .i64 ((rd_T63 t713 x16_1).f1))) (fun _ h_ => h_.1)))) (by decide) hg); have n1_ := Az.mk (blk_grown (g := gb721) (o := .cells #[.int .u8 ((rd_T63 t713 x16_1).f0), .int .i64 ((rd_T63 t713 x16_1).f1)] 63 (0, 0)) (by (with_reducible repeat first|refine blN ?_ _|refine bl1 ?_|refine blA ?_ _); refine blk_put (cs := #[.int .u8 ((rd_T63 t713 x16_1).f0), .int .i64 0]) ?_ 1 _ rfl; (with_reducible repeat first|refine blN ?_ _|refine bl1 ?_|refine blA ?_ _); refine blk_put (cs := #[.int .u8 0, .int .i64 0]) ?_ 0 _ rfl; (with_reducible repeat first|refine blN ?_ _|refine bl1 ?_|refine blA ?_ _); exact BK721.out) hg (Kd.R_ne HO_5.out BK721.out (by decide))); have n2_ := Az.mk (hb); have n3_ := Az.mk (ho); clear HO_14; clear BK721; clear HB; clear HO_5; have HO_14 := n0_; have BK721 := n1_; have HB := n2_; have HO724 := n3_; clear n0_ n1_ n2_ n3_; clear ho hb hg hat)))
        go_roundg k1
        case measure => have := HK1.out; omega
        case rel => exact ⟨(y722), (wrap64 (x16_1 + 1)), (by first | rfl | (simp; done) | (simp [*]; done)), H', ⟨by have := HK1.out; omega⟩, ⟨by (with_reducible repeat first|apply Kd.Ra|apply Kd.Rn|apply Kd.Rw); exact HO724.out⟩, ⟨by (with_reducible repeat first|apply Kd.Ra|apply Kd.Rn|apply Kd.Rw); exact Kd.R_mono HO_14.out (fun _ hk => trivial)⟩, ⟨by repeat (first | (with_reducible first|exact HB.out|apply bA|apply bN|apply bD | refine below_set ?_ GE721.out) | exact HB.out)⟩⟩
       ·rw [if_neg c11] at H
        exact absurd H (by simp)
      ·rw [if_neg c10] at H
       have c10b0 : (((rd_T63 t713 x16_1).f0) == 43) = false := beq_eq_false_iff_ne.mpr c10
       have c10b1 : (((rd_T63 t713 x16_1).f0) != 43) = true := bne_iff_ne.mpr c10
       by_cases c15 : ((rd_T63 t713 x16_1).f0) = 45
       ·rw [if_pos c15] at H
        have c15b0 : (((rd_T63 t713 x16_1).f0) == 45) = true := beq_iff_eq.mpr c15
        have c15b1 : (((rd_T63 t713 x16_1).f0) != 45) = false := bne_eq_false_iff_eq.mpr c15
        clear c15
        obtain ⟨ji16, hji16⟩ : ∃ j_ : Int, (wrap64 ((x5_1.length : Int) - 1)) = j_ := ⟨_, rfl⟩
        replace H : (if 0 ≤ (ji16) then (if (ji16) < (x5_1.length : Int) then (if (rd x5_1 (ji16)) = ((rd_T63 t713 x16_1).f1) then (if (ji16) ≤ (x5_1.length : Int) then (spec_AreNested.l0 k1 t714 (x5_1.take ((ji16) : Int).toNat) t713 (t713.length : Int) (wrap64 (x16_1 + 1))) else (none)) else (some false)) else (none)) else (none)) = some r := by first | (rw [hji16] at H; exact H) | (simp only [hji16] at H ⊢; exact H)
        have hji16w : (IntKind.i64.wrap ((x5_1.length : Int) - 1)) = ji16 := (i64_w _).trans hji16
        by_cases c17 : 0 ≤ (ji16)
        ·rw [if_pos c17] at H
         have c17b0 : decide (0 ≤ (ji16)) = true := decide_eq_true c17
         clear c17
         by_cases c18 : (ji16) < (x5_1.length : Int)
         ·rw [if_pos c18] at H
          have c18b0 : decide ((ji16) < (x5_1.length : Int)) = true := decide_eq_true c18
          clear c18
          by_cases c19 : (rd x5_1 (ji16)) = ((rd_T63 t713 x16_1).f1)
          ·rw [if_pos c19] at H
           have c19b0 : ((rd x5_1 (ji16)) == ((rd_T63 t713 x16_1).f1)) = true := beq_iff_eq.mpr c19
           have c19b1 : ((rd x5_1 (ji16)) != ((rd_T63 t713 x16_1).f1)) = false := bne_eq_false_iff_eq.mpr c19
           clear c19
           by_cases c20 : (ji16) ≤ (x5_1.length : Int)
           ·rw [if_pos c20] at H
            have c20b0 := eq_true c20
            have c20b1 : decide ((ji16) ≤ (x5_1.length : Int)) = true := decide_eq_true c20
            clear c20
            obtain ⟨y726, hy726⟩ : ∃ y_ : List Int, y_ = (x5_1.take ((ji16) : Int).toNat) := ⟨_, rfl⟩
            replace H : (spec_AreNested.l0 k1 t714 y726 t713 (t713.length : Int) (wrap64 (x16_1 + 1))) = some r := by first | (rw [hy726]; with_reducible exact H) | (have H2_ := (Option.bind_some _ _).symm.trans H; rw [hy726]; with_reducible exact H2_) | (have H2_ := (Option.bind_some _ _).symm.trans H; with_reducible exact H2_) | with_reducible exact H | (rw [hy726]; exact H) | exact H
            have Ny726 := Az.mk hy726
            clear hy726
            have H' := Az.mk H
            clear H
            have p720 : 0 ≤ (x16_1 : Int) := of_decide_eq_true (by first|(with_reducible assumption)|assumption)
            have q720 : x16_1 < (t713.length : Int) := of_decide_eq_true (by first|(with_reducible assumption)|assumption)
            obtain ⟨ad720, e720, hx720_0, hx720_1⟩ := at_T63 (Kd.R_reads' HO_14.out).2.2 x16_1 p720 q720
            cases e720
            replace p720 := eq_true p720
            replace q720 := eq_true q720
            go_wp2_with (first | ((with_reducible refine gate_dst (N := 7) rfl ?_); refine box_event ?hg (N := 7) ?hd (cs := #[.int .u8 0, .int .i64 0]) (t := 63) ?hr ?_; (case hd => rfl); (case hg => rfl); (case hr => first | (go_simp; done) | (go_simp; rfl)); intro gb721 hg w21 hbox hb; have n0_ := Az.mk (Kd.Rb (by (with_reducible repeat first|apply Kd.Ra|apply Kd.Rn|apply Kd.Rw); exact HO_5.out) hb); have n1_ := Az.mk (Kd.Rb (Kd.R_elderB (by (with_reducible repeat first|apply Kd.Ra|apply Kd.Rn|apply Kd.Rw); exact HO_14.out) gb721 (Nat.le_of_eq hg.symm)) hb); have n2_ := Az.mk (bS (by repeat first|exact HB.out|apply bA|apply bN|apply bD) hb); have n3_ := Az.mk (hbox); have n4_ := Az.mk ((by rw [hg]; exact (bZ (by repeat first|exact HB.out|apply bA|apply bN|apply bD)) : w.heap.size ≤ gb721)); have n5_ := Az.mk ((by rw [hg]; exact (bZ (by repeat first|exact HB.out|apply bA|apply bN|apply bD)) : w.heap.size ≤ gb721)); clear HO_5; clear HO_14; clear HB; have HO_5 := n0_; have HO_14 := n1_; have HB := n2_; have BK721 := n3_; have GW721 := n4_; have GE721 := n5_; clear n0_ n1_ n2_ n3_ n4_ n5_; clear hb hbox hg; have hcz22_0 : w21.cell? ⟨gb721, 0, none⟩ = some (.int .u8 0) := (blk_cell BK721.out 0).trans rfl; have hcz22_1 : w21.cell? ⟨gb721, 1, none⟩ = some (.int .i64 0) := (blk_cell BK721.out 1).trans rfl; have hfz22_0 := blk_frozen BK721.out 0; have hfz22_1 := blk_frozen BK721.out 1) | ((with_reducible refine gate_store (t := 63) (p := 7) rfl ?_); (try (rw [drewN_self w21]; generalize hq_ : World.drewN w21 _ = w21; have n0_ := Az.mk (Kd.R_at hq_ HO_5.out); have n1_ := Az.mk (Kd.R_at hq_ HO_14.out); have n2_ := Az.mk (blk_at hq_ BK721.out); have n3_ := Az.mk (below_at hq_ HB.out); clear hq_ HO_5 HO_14 BK721 HB; have HO_5 := n0_; have HO_14 := n1_; have BK721 := n2_; have HB := n3_; clear n0_ n1_ n2_ n3_)); refine store_event (t := 63) (p := 7) (v := ?vo_w23) (w1 := ((w21.setCell ⟨gb721, 0, none⟩ (.int .u8 ((rd_T63 t713 x16_1).f0))).setCell ⟨gb721, 1, none⟩ (.int .i64 ((rd_T63 t713 x16_1).f1)))) ?hg ?ho ?hn ?hr ?_; (case ho => rfl); (case hg => rfl); (case hn => rfl); (case hr => first | (go_simp; done) | (go_simp; rfl)); intro w23 hw; have n0_ : Az (Kd.R (Kd.int .i64) 3 w23 w.heap.size (fun _ => True) u5 x5_1) := ⟨(by rw [hw]; exact (by (with_reducible repeat first|apply Kd.Ra|apply Kd.Rn|apply Kd.Rw); exact Kd.R_mono (Kd.R_far (p := ⟨gb721, 1, none⟩) (Kd.R_far (p := ⟨gb721, 0, none⟩) (Kd.R_types HO_5.out BK721.out (by decide)) (fun _ hk => hk.2) (.int .u8 ((rd_T63 t713 x16_1).f0))) (fun _ hk => hk.2) (.int .i64 ((rd_T63 t713 x16_1).f1))) (fun _ hk => trivial)))⟩; have n1_ : Az (Kd.R k63 63 w23 w.heap.size (fun k_ => k_ ≠ gb721) (.slice (some ad720) t713.length co6) t713) := ⟨(by rw [hw]; exact (by (with_reducible repeat first|apply Kd.Ra|apply Kd.Rn|apply Kd.Rw); exact Kd.R_mono (Kd.R_far (p := ⟨gb721, 1, none⟩) (Kd.R_far (p := ⟨gb721, 0, none⟩) (Kd.R_mono HO_14.out (fun k_ hk => (⟨hk, hk.2⟩ : _ ∧ k_ ≠ gb721))) (fun _ hk => hk.2) (.int .u8 ((rd_T63 t713 x16_1).f0))) (fun _ hk => hk.2) (.int .i64 ((rd_T63 t713 x16_1).f1))) (fun _ hk => hk.1.2)))⟩; have n2_ : Az (w23.heap[gb721]? = some (.cells #[.int .u8 ((rd_T63 t713 x16_1).f0), .int .i64 ((rd_T63 t713 x16_1).f1)] 63 (0, 0))) := ⟨(by rw [hw]; exact (by (with_reducible repeat first|refine blN ?_ _|refine bl1 ?_|refine blA ?_ _); refine blk_put (cs := #[.int .u8 ((rd_T63 t713 x16_1).f0), .int .i64 0]) ?_ 1 _ rfl; (with_reducible repeat first|refine blN ?_ _|refine bl1 ?_|refine blA ?_ _); refine blk_put (cs := #[.int .u8 0, .int .i64 0]) ?_ 0 _ rfl; (with_reducible repeat first|refine blN ?_ _|refine bl1 ?_|refine blA ?_ _); exact BK721.out))⟩; have n3_ : Az (Below w.heap.size w w23) := ⟨(by rw [hw]; exact (by repeat (first | (with_reducible first|exact HB.out|apply bA|apply bN|apply bD | refine below_set ?_ GE721.out) | exact HB.out)))⟩; clear hw; clear HO_5; clear HO_14; clear BK721; clear HB; have HO_5 := n0_; have HO_14 := n1_; have BK721 := n2_; have HB := n3_; clear n0_ n1_ n2_ n3_; have hcz24_0 : w23.cell? ⟨gb721, 0, none⟩ = some (.int .u8 ((rd_T63 t713 x16_1).f0)) := (blk_cell BK721.out 0).trans rfl; have hcz24_1 : w23.cell? ⟨gb721, 1, none⟩ = some (.int .i64 ((rd_T63 t713 x16_1).f1)) := (blk_cell BK721.out 1).trans rfl; have hfz24_0 := blk_frozen BK721.out 0; have hfz24_1 := blk_frozen BK721.out 1; obtain ⟨Ao25, co25, eo25⟩ := Kd.R_slice HO_5.out; subst eo25; have p725 : 0 ≤ ((ji16) : Int) := of_decide_eq_true (by first|(with_reducible assumption)|assumption); have q725 : (ji16) < (x5_1.length : Int) := of_decide_eq_true (by first|(with_reducible assumption)|assumption); obtain ⟨ad725, e725, hx725_0⟩ := Kd.at_int (Kd.R_reads' HO_5.out).2.2 (ji16) p725 q725; cases e725; replace p725 := eq_true p725; replace q725 := eq_true q725; have q26 : ((ji16) : Int) ≤ ((x5_1.length : Int) : Int) := of_decide_eq_true (by first|(with_reducible assumption)|assumption); obtain ⟨i026, hi026, _, hsz26, _⟩ := info_parts info3; have hcut26 := cut_to (P := Tryz.prog) 33 3 .i64 Tryz.underlying33 hi026 (some ad725) x5_1.length co25 (ji16) (of_decide_eq_true (by first|(with_reducible assumption)|assumption)) q26 (Kd.R_reads' HO_5.out).2.1; have hr26 := Kd.R_take (m := ((ji16) : Int).toNat) HO_5.out (by omega); have hy26 : y726.length = ((ji16) : Int).toNat := (by rw [Ny726.out, List.length_take]; omega); rw [← Ny726.out] at hr26; rw [← hy26] at hr26 hcut26; clear hy26 hi026 hsz26 HO_5; have HO728 := Az.mk hr26; clear hr26; replace q26 := eq_true q26))
            repeat (go_quiet (first | ((with_reducible refine gate_dst (N := 7) rfl ?_); refine box_event ?hg (N := 7) ?hd (cs := #[.int .u8 0, .int .i64 0]) (t := 63) ?hr ?_; (case hd => rfl); (case hg => rfl); (case hr => first | (go_simp; done) | (go_simp; rfl)); intro gb721 hg w21 hbox hb; have n0_ := Az.mk (Kd.Rb (by (with_reducible repeat first|apply Kd.Ra|apply Kd.Rn|apply Kd.Rw); exact HO_5.out) hb); have n1_ := Az.mk (Kd.Rb (Kd.R_elderB (by (with_reducible repeat first|apply Kd.Ra|apply Kd.Rn|apply Kd.Rw); exact HO_14.out) gb721 (Nat.le_of_eq hg.symm)) hb); have n2_ := Az.mk (bS (by repeat first|exact HB.out|apply bA|apply bN|apply bD) hb); have n3_ := Az.mk (hbox); have n4_ := Az.mk ((by rw [hg]; exact (bZ (by repeat first|exact HB.out|apply bA|apply bN|apply bD)) : w.heap.size ≤ gb721)); have n5_ := Az.mk ((by rw [hg]; exact (bZ (by repeat first|exact HB.out|apply bA|apply bN|apply bD)) : w.heap.size ≤ gb721)); clear HO_5; clear HO_14; clear HB; have HO_5 := n0_; have HO_14 := n1_; have HB := n2_; have BK721 := n3_; have GW721 := n4_; have GE721 := n5_; clear n0_ n1_ n2_ n3_ n4_ n5_; clear hb hbox hg; have hcz22_0 : w21.cell? ⟨gb721, 0, none⟩ = some (.int .u8 0) := (blk_cell BK721.out 0).trans rfl; have hcz22_1 : w21.cell? ⟨gb721, 1, none⟩ = some (.int .i64 0) := (blk_cell BK721.out 1).trans rfl; have hfz22_0 := blk_frozen BK721.out 0; have hfz22_1 := blk_frozen BK721.out 1) | ((with_reducible refine gate_store (t := 63) (p := 7) rfl ?_); (try (rw [drewN_self w21]; generalize hq_ : World.drewN w21 _ = w21; have n0_ := Az.mk (Kd.R_at hq_ HO_5.out); have n1_ := Az.mk (Kd.R_at hq_ HO_14.out); have n2_ := Az.mk (blk_at hq_ BK721.out); have n3_ := Az.mk (below_at hq_ HB.out); clear hq_ HO_5 HO_14 BK721 HB; have HO_5 := n0_; have HO_14 := n1_; have BK721 := n2_; have HB := n3_; clear n0_ n1_ n2_ n3_)); refine store_event (t := 63) (p := 7) (v := ?vo_w23) (w1 := ((w21.setCell ⟨gb721, 0, none⟩ (.int .u8 ((rd_T63 t713 x16_1).f0))).setCell ⟨gb721, 1, none⟩ (.int .i64 ((rd_T63 t713 x16_1).f1)))) ?hg ?ho ?hn ?hr ?_; (case ho => rfl); (case hg => rfl); (case hn => rfl); (case hr => first | (go_simp; done) | (go_simp; rfl)); intro w23 hw; have n0_ : Az (Kd.R (Kd.int .i64) 3 w23 w.heap.size (fun _ => True) u5 x5_1) := ⟨(by rw [hw]; exact (by (with_reducible repeat first|apply Kd.Ra|apply Kd.Rn|apply Kd.Rw); exact Kd.R_mono (Kd.R_far (p := ⟨gb721, 1, none⟩) (Kd.R_far (p := ⟨gb721, 0, none⟩) (Kd.R_types HO_5.out BK721.out (by decide)) (fun _ hk => hk.2) (.int .u8 ((rd_T63 t713 x16_1).f0))) (fun _ hk => hk.2) (.int .i64 ((rd_T63 t713 x16_1).f1))) (fun _ hk => trivial)))⟩; have n1_ : Az (Kd.R k63 63 w23 w.heap.size (fun k_ => k_ ≠ gb721) (.slice (some ad720) t713.length co6) t713) := ⟨(by rw [hw]; exact (by (with_reducible repeat first|apply Kd.Ra|apply Kd.Rn|apply Kd.Rw); exact Kd.R_mono (Kd.R_far (p := ⟨gb721, 1, none⟩) (Kd.R_far (p := ⟨gb721, 0, none⟩) (Kd.R_mono HO_14.out (fun k_ hk => (⟨hk, hk.2⟩ : _ ∧ k_ ≠ gb721))) (fun _ hk => hk.2) (.int .u8 ((rd_T63 t713 x16_1).f0))) (fun _ hk => hk.2) (.int .i64 ((rd_T63 t713 x16_1).f1))) (fun _ hk => hk.1.2)))⟩; have n2_ : Az (w23.heap[gb721]? = some (.cells #[.int .u8 ((rd_T63 t713 x16_1).f0), .int .i64 ((rd_T63 t713 x16_1).f1)] 63 (0, 0))) := ⟨(by rw [hw]; exact (by (with_reducible repeat first|refine blN ?_ _|refine bl1 ?_|refine blA ?_ _); refine blk_put (cs := #[.int .u8 ((rd_T63 t713 x16_1).f0), .int .i64 0]) ?_ 1 _ rfl; (with_reducible repeat first|refine blN ?_ _|refine bl1 ?_|refine blA ?_ _); refine blk_put (cs := #[.int .u8 0, .int .i64 0]) ?_ 0 _ rfl; (with_reducible repeat first|refine blN ?_ _|refine bl1 ?_|refine blA ?_ _); exact BK721.out))⟩; have n3_ : Az (Below w.heap.size w w23) := ⟨(by rw [hw]; exact (by repeat (first | (with_reducible first|exact HB.out|apply bA|apply bN|apply bD | refine below_set ?_ GE721.out) | exact HB.out)))⟩; clear hw; clear HO_5; clear HO_14; clear BK721; clear HB; have HO_5 := n0_; have HO_14 := n1_; have BK721 := n2_; have HB := n3_; clear n0_ n1_ n2_ n3_; have hcz24_0 : w23.cell? ⟨gb721, 0, none⟩ = some (.int .u8 ((rd_T63 t713 x16_1).f0)) := (blk_cell BK721.out 0).trans rfl; have hcz24_1 : w23.cell? ⟨gb721, 1, none⟩ = some (.int .i64 ((rd_T63 t713 x16_1).f1)) := (blk_cell BK721.out 1).trans rfl; have hfz24_0 := blk_frozen BK721.out 0; have hfz24_1 := blk_frozen BK721.out 1; obtain ⟨Ao25, co25, eo25⟩ := Kd.R_slice HO_5.out; subst eo25; have p725 : 0 ≤ ((ji16) : Int) := of_decide_eq_true (by first|(with_reducible assumption)|assumption); have q725 : (ji16) < (x5_1.length : Int) := of_decide_eq_true (by first|(with_reducible assumption)|assumption); obtain ⟨ad725, e725, hx725_0⟩ := Kd.at_int (Kd.R_reads' HO_5.out).2.2 (ji16) p725 q725; cases e725; replace p725 := eq_true p725; replace q725 := eq_true q725; have q26 : ((ji16) : Int) ≤ ((x5_1.length : Int) : Int) := of_decide_eq_true (by first|(with_reducible assumption)|assumption); obtain ⟨i026, hi026, _, hsz26, _⟩ := info_parts info3; have hcut26 := cut_to (P := Tryz.prog) 33 3 .i64 Tryz.underlying33 hi026 (some ad725) x5_1.length co25 (ji16) (of_decide_eq_true (by first|(with_reducible assumption)|assumption)) q26 (Kd.R_reads' HO_5.out).2.1; have hr26 := Kd.R_take (m := ((ji16) : Int).toNat) HO_5.out (by omega); have hy26 : y726.length = ((ji16) : Int).toNat := (by rw [Ny726.out, List.length_take]; omega); rw [← Ny726.out] at hr26; rw [← hy26] at hr26 hcut26; clear hy26 hi026 hsz26 HO_5; have HO728 := Az.mk hr26; clear hr26; replace q26 := eq_true q26)); try go_wp2_with (first | ((with_reducible refine gate_dst (N := 7) rfl ?_); refine box_event ?hg (N := 7) ?hd (cs := #[.int .u8 0, .int .i64 0]) (t := 63) ?hr ?_; (case hd => rfl); (case hg => rfl); (case hr => first | (go_simp; done) | (go_simp; rfl)); intro gb721 hg w21 hbox hb; have n0_ := Az.mk (Kd.Rb (by (with_reducible repeat first|apply Kd.Ra|apply Kd.Rn|apply Kd.Rw); exact HO_5.out) hb); have n1_ := Az.mk (Kd.Rb (Kd.R_elderB (by (with_reducible repeat first|apply Kd.Ra|apply Kd.Rn|apply Kd.Rw); exact HO_14.out) gb721 (Nat.le_of_eq hg.symm)) hb); have n2_ := Az.mk (bS (by repeat first|exact HB.out|apply bA|apply bN|apply bD) hb); have n3_ := Az.mk (hbox); have n4_ := Az.mk ((by rw [hg]; exact (bZ (by repeat first|exact HB.out|apply bA|apply bN|apply bD)) : w.heap.size ≤ gb721)); have n5_ := Az.mk ((by rw [hg]; exact (bZ (by repeat first|exact HB.out|apply bA|apply bN|apply bD)) : w.heap.size ≤ gb721)); clear HO_5; clear HO_14; clear HB; have HO_5 := n0_; have HO_14 := n1_; have HB := n2_; have BK721 := n3_; have GW721 := n4_; have GE721 := n5_; clear n0_ n1_ n2_ n3_ n4_ n5_; clear hb hbox hg; have hcz22_0 : w21.cell? ⟨gb721, 0, none⟩ = some (.int .u8 0) := (blk_cell BK721.out 0).trans rfl; have hcz22_1 : w21.cell? ⟨gb721, 1, none⟩ = some (.int .i64 0) := (blk_cell BK721.out 1).trans rfl; have hfz22_0 := blk_frozen BK721.out 0; have hfz22_1 := blk_frozen BK721.out 1) | ((with_reducible refine gate_store (t := 63) (p := 7) rfl ?_); (try (rw [drewN_self w21]; generalize hq_ : World.drewN w21 _ = w21; have n0_ := Az.mk (Kd.R_at hq_ HO_5.out); have n1_ := Az.mk (Kd.R_at hq_ HO_14.out); have n2_ := Az.mk (blk_at hq_ BK721.out); have n3_ := Az.mk (below_at hq_ HB.out); clear hq_ HO_5 HO_14 BK721 HB; have HO_5 := n0_; have HO_14 := n1_; have BK721 := n2_; have HB := n3_; clear n0_ n1_ n2_ n3_)); refine store_event (t := 63) (p := 7) (v := ?vo_w23) (w1 := ((w21.setCell ⟨gb721, 0, none⟩ (.int .u8 ((rd_T63 t713 x16_1).f0))).setCell ⟨gb721, 1, none⟩ (.int .i64 ((rd_T63 t713 x16_1).f1)))) ?hg ?ho ?hn ?hr ?_; (case ho => rfl); (case hg => rfl); (case hn => rfl); (case hr => first | (go_simp; done) | (go_simp; rfl)); intro w23 hw; have n0_ : Az (Kd.R (Kd.int .i64) 3 w23 w.heap.size (fun _ => True) u5 x5_1) := ⟨(by rw [hw]; exact (by (with_reducible repeat first|apply Kd.Ra|apply Kd.Rn|apply Kd.Rw); exact Kd.R_mono (Kd.R_far (p := ⟨gb721, 1, none⟩) (Kd.R_far (p := ⟨gb721, 0, none⟩) (Kd.R_types HO_5.out BK721.out (by decide)) (fun _ hk => hk.2) (.int .u8 ((rd_T63 t713 x16_1).f0))) (fun _ hk => hk.2) (.int .i64 ((rd_T63 t713 x16_1).f1))) (fun _ hk => trivial)))⟩; have n1_ : Az (Kd.R k63 63 w23 w.heap.size (fun k_ => k_ ≠ gb721) (.slice (some ad720) t713.length co6) t713) := ⟨(by rw [hw]; exact (by (with_reducible repeat first|apply Kd.Ra|apply Kd.Rn|apply Kd.Rw); exact Kd.R_mono (Kd.R_far (p := ⟨gb721, 1, none⟩) (Kd.R_far (p := ⟨gb721, 0, none⟩) (Kd.R_mono HO_14.out (fun k_ hk => (⟨hk, hk.2⟩ : _ ∧ k_ ≠ gb721))) (fun _ hk => hk.2) (.int .u8 ((rd_T63 t713 x16_1).f0))) (fun _ hk => hk.2) (.int .i64 ((rd_T63 t713 x16_1).f1))) (fun _ hk => hk.1.2)))⟩; have n2_ : Az (w23.heap[gb721]? = some (.cells #[.int .u8 ((rd_T63 t713 x16_1).f0), .int .i64 ((rd_T63 t713 x16_1).f1)] 63 (0, 0))) := ⟨(by rw [hw]; exact (by (with_reducible repeat first|refine blN ?_ _|refine bl1 ?_|refine blA ?_ _); refine blk_put (cs := #[.int .u8 ((rd_T63 t713 x16_1).f0), .int .i64 0]) ?_ 1 _ rfl; (with_reducible repeat first|refine blN ?_ _|refine bl1 ?_|refine blA ?_ _); refine blk_put (cs := #[.int .u8 0, .int .i64 0]) ?_ 0 _ rfl; (with_reducible repeat first|refine blN ?_ _|refine bl1 ?_|refine blA ?_ _); exact BK721.out))⟩; have n3_ : Az (Below w.heap.size w w23) := ⟨(by rw [hw]; exact (by repeat (first | (with_reducible first|exact HB.out|apply bA|apply bN|apply bD | refine below_set ?_ GE721.out) | exact HB.out)))⟩; clear hw; clear HO_5; clear HO_14; clear BK721; clear HB; have HO_5 := n0_; have HO_14 := n1_; have BK721 := n2_; have HB := n3_; clear n0_ n1_ n2_ n3_; have hcz24_0 : w23.cell? ⟨gb721, 0, none⟩ = some (.int .u8 ((rd_T63 t713 x16_1).f0)) := (blk_cell BK721.out 0).trans rfl; have hcz24_1 : w23.cell? ⟨gb721, 1, none⟩ = some (.int .i64 ((rd_T63 t713 x16_1).f1)) := (blk_cell BK721.out 1).trans rfl; have hfz24_0 := blk_frozen BK721.out 0; have hfz24_1 := blk_frozen BK721.out 1; obtain ⟨Ao25, co25, eo25⟩ := Kd.R_slice HO_5.out; subst eo25; have p725 : 0 ≤ ((ji16) : Int) := of_decide_eq_true (by first|(with_reducible assumption)|assumption); have q725 : (ji16) < (x5_1.length : Int) := of_decide_eq_true (by first|(with_reducible assumption)|assumption); obtain ⟨ad725, e725, hx725_0⟩ := Kd.at_int (Kd.R_reads' HO_5.out).2.2 (ji16) p725 q725; cases e725; replace p725 := eq_true p725; replace q725 := eq_true q725; have q26 : ((ji16) : Int) ≤ ((x5_1.length : Int) : Int) := of_decide_eq_true (by first|(with_reducible assumption)|assumption); obtain ⟨i026, hi026, _, hsz26, _⟩ := info_parts info3; have hcut26 := cut_to (P := Tryz.prog) 33 3 .i64 Tryz.underlying33 hi026 (some ad725) x5_1.length co25 (ji16) (of_decide_eq_true (by first|(with_reducible assumption)|assumption)) q26 (Kd.R_reads' HO_5.out).2.1; have hr26 := Kd.R_take (m := ((ji16) : Int).toNat) HO_5.out (by omega); have hy26 : y726.length = ((ji16) : Int).toNat := (by rw [Ny726.out, List.length_take]; omega); rw [← Ny726.out] at hr26; rw [← hy26] at hr26 hcut26; clear hy26 hi026 hsz26 HO_5; have HO728 := Az.mk hr26; clear hr26; replace q26 := eq_true q26)))
            go_roundg k1
            case measure => have := HK1.out; omega
            case rel => exact ⟨(y726), (wrap64 (x16_1 + 1)), (by first | rfl | (simp; done) | (simp [*]; done)), H', ⟨by have := HK1.out; omega⟩, ⟨by (with_reducible repeat first|apply Kd.Ra|apply Kd.Rn|apply Kd.Rw); exact HO728.out⟩, ⟨by (with_reducible repeat first|apply Kd.Ra|apply Kd.Rn|apply Kd.Rw); exact Kd.R_mono HO_14.out (fun _ hk => trivial)⟩, ⟨by repeat (first | (with_reducible first|exact HB.out|apply bA|apply bN|apply bD | refine below_set ?_ GE721.out) | exact HB.out)⟩⟩
           ·rw [if_neg c20] at H
            exact absurd H (by simp)
          ·rw [if_neg c19] at H
           have c19b0 : ((rd x5_1 (ji16)) == ((rd_T63 t713 x16_1).f1)) = false := beq_eq_false_iff_ne.mpr c19
           have c19b1 : ((rd x5_1 (ji16)) != ((rd_T63 t713 x16_1).f1)) = true := bne_iff_ne.mpr c19
           obtain rfl := Option.some.inj H
           have p720 : 0 ≤ (x16_1 : Int) := of_decide_eq_true (by first|(with_reducible assumption)|assumption)
           have q720 : x16_1 < (t713.length : Int) := of_decide_eq_true (by first|(with_reducible assumption)|assumption)
           obtain ⟨ad720, e720, hx720_0, hx720_1⟩ := at_T63 (Kd.R_reads' HO_14.out).2.2 x16_1 p720 q720
           cases e720
           replace p720 := eq_true p720
           replace q720 := eq_true q720
           go_wp2_with (first | ((with_reducible refine gate_dst (N := 7) rfl ?_); refine box_event ?hg (N := 7) ?hd (cs := #[.int .u8 0, .int .i64 0]) (t := 63) ?hr ?_; (case hd => rfl); (case hg => rfl); (case hr => first | (go_simp; done) | (go_simp; rfl)); intro gb721 hg w27 hbox hb; have n0_ := Az.mk (Kd.Rb (by (with_reducible repeat first|apply Kd.Ra|apply Kd.Rn|apply Kd.Rw); exact HO_5.out) hb); have n1_ := Az.mk (Kd.Rb (Kd.R_elderB (by (with_reducible repeat first|apply Kd.Ra|apply Kd.Rn|apply Kd.Rw); exact HO_14.out) gb721 (Nat.le_of_eq hg.symm)) hb); have n2_ := Az.mk (bS (by repeat first|exact HB.out|apply bA|apply bN|apply bD) hb); have n3_ := Az.mk (hbox); have n4_ := Az.mk ((by rw [hg]; exact (bZ (by repeat first|exact HB.out|apply bA|apply bN|apply bD)) : w.heap.size ≤ gb721)); have n5_ := Az.mk ((by rw [hg]; exact (bZ (by repeat first|exact HB.out|apply bA|apply bN|apply bD)) : w.heap.size ≤ gb721)); clear HO_5; clear HO_14; clear HB; have HO_5 := n0_; have HO_14 := n1_; have HB := n2_; have BK721 := n3_; have GW721 := n4_; have GE721 := n5_; clear n0_ n1_ n2_ n3_ n4_ n5_; clear hb hbox hg; have hcz28_0 : w27.cell? ⟨gb721, 0, none⟩ = some (.int .u8 0) := (blk_cell BK721.out 0).trans rfl; have hcz28_1 : w27.cell? ⟨gb721, 1, none⟩ = some (.int .i64 0) := (blk_cell BK721.out 1).trans rfl; have hfz28_0 := blk_frozen BK721.out 0; have hfz28_1 := blk_frozen BK721.out 1; obtain ⟨Ao29, co29, eo29⟩ := Kd.R_slice HO_5.out; subst eo29; have p725 : 0 ≤ ((ji16) : Int) := of_decide_eq_true (by first|(with_reducible assumption)|assumption); have q725 : (ji16) < (x5_1.length : Int) := of_decide_eq_true (by first|(with_reducible assumption)|assumption); obtain ⟨ad725, e725, hx725_0⟩ := Kd.at_int (Kd.R_reads' HO_5.out).2.2 (ji16) p725 q725; cases e725; have hn725_0 : ad725.block ≠ gb721 := Kd.own_blk (Kd.R_ne HO_5.out BK721.out (by decide)); have hn725_1 : ad725.block ≠ gb721 := Kd.own_blk (Kd.R_ne HO_5.out BK721.out (by decide)); replace hx725_0 := (cell_far (p := ⟨gb721, 0, none⟩) (by first | (rw [add_block]; exact hn725_0) | (show (Addr.add _ _).block ≠ _; rw [add_block]; exact hn725_0) | exact hn725_0) (.int .u8 ((rd_T63 t713 x16_1).f0))).trans hx725_0; replace hx725_0 := (cell_far (p := ⟨gb721, 1, none⟩) (by first | (rw [add_block]; exact hn725_1) | (show (Addr.add _ _).block ≠ _; rw [add_block]; exact hn725_1) | exact hn725_1) (.int .i64 ((rd_T63 t713 x16_1).f1))).trans hx725_0; (try have hy725_0 := fun (n_ : Nat) => (show ((((w27.drewN n_).setCell ⟨gb721, 0, none⟩ (.int .u8 ((rd_T63 t713 x16_1).f0))).setCell ⟨gb721, 1, none⟩ (.int .i64 ((rd_T63 t713 x16_1).f1)))).cell? _ = some _ from hx725_0)); clear hn725_0; clear hn725_1; replace p725 := eq_true p725; replace q725 := eq_true q725))
           repeat (go_quiet (first | ((with_reducible refine gate_dst (N := 7) rfl ?_); refine box_event ?hg (N := 7) ?hd (cs := #[.int .u8 0, .int .i64 0]) (t := 63) ?hr ?_; (case hd => rfl); (case hg => rfl); (case hr => first | (go_simp; done) | (go_simp; rfl)); intro gb721 hg w27 hbox hb; have n0_ := Az.mk (Kd.Rb (by (with_reducible repeat first|apply Kd.Ra|apply Kd.Rn|apply Kd.Rw); exact HO_5.out) hb); have n1_ := Az.mk (Kd.Rb (Kd.R_elderB (by (with_reducible repeat first|apply Kd.Ra|apply Kd.Rn|apply Kd.Rw); exact HO_14.out) gb721 (Nat.le_of_eq hg.symm)) hb); have n2_ := Az.mk (bS (by repeat first|exact HB.out|apply bA|apply bN|apply bD) hb); have n3_ := Az.mk (hbox); have n4_ := Az.mk ((by rw [hg]; exact (bZ (by repeat first|exact HB.out|apply bA|apply bN|apply bD)) : w.heap.size ≤ gb721)); have n5_ := Az.mk ((by rw [hg]; exact (bZ (by repeat first|exact HB.out|apply bA|apply bN|apply bD)) : w.heap.size ≤ gb721)); clear HO_5; clear HO_14; clear HB; have HO_5 := n0_; have HO_14 := n1_; have HB := n2_; have BK721 := n3_; have GW721 := n4_; have GE721 := n5_; clear n0_ n1_ n2_ n3_ n4_ n5_; clear hb hbox hg; have hcz28_0 : w27.cell? ⟨gb721, 0, none⟩ = some (.int .u8 0) := (blk_cell BK721.out 0).trans rfl; have hcz28_1 : w27.cell? ⟨gb721, 1, none⟩ = some (.int .i64 0) := (blk_cell BK721.out 1).trans rfl; have hfz28_0 := blk_frozen BK721.out 0; have hfz28_1 := blk_frozen BK721.out 1; obtain ⟨Ao29, co29, eo29⟩ := Kd.R_slice HO_5.out; subst eo29; have p725 : 0 ≤ ((ji16) : Int) := of_decide_eq_true (by first|(with_reducible assumption)|assumption); have q725 : (ji16) < (x5_1.length : Int) := of_decide_eq_true (by first|(with_reducible assumption)|assumption); obtain ⟨ad725, e725, hx725_0⟩ := Kd.at_int (Kd.R_reads' HO_5.out).2.2 (ji16) p725 q725; cases e725; have hn725_0 : ad725.block ≠ gb721 := Kd.own_blk (Kd.R_ne HO_5.out BK721.out (by decide)); have hn725_1 : ad725.block ≠ gb721 := Kd.own_blk (Kd.R_ne HO_5.out BK721.out (by decide)); replace hx725_0 := (cell_far (p := ⟨gb721, 0, none⟩) (by first | (rw [add_block]; exact hn725_0) | (show (Addr.add _ _).block ≠ _; rw [add_block]; exact hn725_0) | exact hn725_0) (.int .u8 ((rd_T63 t713 x16_1).f0))).trans hx725_0; replace hx725_0 := (cell_far (p := ⟨gb721, 1, none⟩) (by first | (rw [add_block]; exact hn725_1) | (show (Addr.add _ _).block ≠ _; rw [add_block]; exact hn725_1) | exact hn725_1) (.int .i64 ((rd_T63 t713 x16_1).f1))).trans hx725_0; (try have hy725_0 := fun (n_ : Nat) => (show ((((w27.drewN n_).setCell ⟨gb721, 0, none⟩ (.int .u8 ((rd_T63 t713 x16_1).f0))).setCell ⟨gb721, 1, none⟩ (.int .i64 ((rd_T63 t713 x16_1).f1)))).cell? _ = some _ from hx725_0)); clear hn725_0; clear hn725_1; replace p725 := eq_true p725; replace q725 := eq_true q725)); try go_wp2_with (first | ((with_reducible refine gate_dst (N := 7) rfl ?_); refine box_event ?hg (N := 7) ?hd (cs := #[.int .u8 0, .int .i64 0]) (t := 63) ?hr ?_; (case hd => rfl); (case hg => rfl); (case hr => first | (go_simp; done) | (go_simp; rfl)); intro gb721 hg w27 hbox hb; have n0_ := Az.mk (Kd.Rb (by (with_reducible repeat first|apply Kd.Ra|apply Kd.Rn|apply Kd.Rw); exact HO_5.out) hb); have n1_ := Az.mk (Kd.Rb (Kd.R_elderB (by (with_reducible repeat first|apply Kd.Ra|apply Kd.Rn|apply Kd.Rw); exact HO_14.out) gb721 (Nat.le_of_eq hg.symm)) hb); have n2_ := Az.mk (bS (by repeat first|exact HB.out|apply bA|apply bN|apply bD) hb); have n3_ := Az.mk (hbox); have n4_ := Az.mk ((by rw [hg]; exact (bZ (by repeat first|exact HB.out|apply bA|apply bN|apply bD)) : w.heap.size ≤ gb721)); have n5_ := Az.mk ((by rw [hg]; exact (bZ (by repeat first|exact HB.out|apply bA|apply bN|apply bD)) : w.heap.size ≤ gb721)); clear HO_5; clear HO_14; clear HB; have HO_5 := n0_; have HO_14 := n1_; have HB := n2_; have BK721 := n3_; have GW721 := n4_; have GE721 := n5_; clear n0_ n1_ n2_ n3_ n4_ n5_; clear hb hbox hg; have hcz28_0 : w27.cell? ⟨gb721, 0, none⟩ = some (.int .u8 0) := (blk_cell BK721.out 0).trans rfl; have hcz28_1 : w27.cell? ⟨gb721, 1, none⟩ = some (.int .i64 0) := (blk_cell BK721.out 1).trans rfl; have hfz28_0 := blk_frozen BK721.out 0; have hfz28_1 := blk_frozen BK721.out 1; obtain ⟨Ao29, co29, eo29⟩ := Kd.R_slice HO_5.out; subst eo29; have p725 : 0 ≤ ((ji16) : Int) := of_decide_eq_true (by first|(with_reducible assumption)|assumption); have q725 : (ji16) < (x5_1.length : Int) := of_decide_eq_true (by first|(with_reducible assumption)|assumption); obtain ⟨ad725, e725, hx725_0⟩ := Kd.at_int (Kd.R_reads' HO_5.out).2.2 (ji16) p725 q725; cases e725; have hn725_0 : ad725.block ≠ gb721 := Kd.own_blk (Kd.R_ne HO_5.out BK721.out (by decide)); have hn725_1 : ad725.block ≠ gb721 := Kd.own_blk (Kd.R_ne HO_5.out BK721.out (by decide)); replace hx725_0 := (cell_far (p := ⟨gb721, 0, none⟩) (by first | (rw [add_block]; exact hn725_0) | (show (Addr.add _ _).block ≠ _; rw [add_block]; exact hn725_0) | exact hn725_0) (.int .u8 ((rd_T63 t713 x16_1).f0))).trans hx725_0; replace hx725_0 := (cell_far (p := ⟨gb721, 1, none⟩) (by first | (rw [add_block]; exact hn725_1) | (show (Addr.add _ _).block ≠ _; rw [add_block]; exact hn725_1) | exact hn725_1) (.int .i64 ((rd_T63 t713 x16_1).f1))).trans hx725_0; (try have hy725_0 := fun (n_ : Nat) => (show ((((w27.drewN n_).setCell ⟨gb721, 0, none⟩ (.int .u8 ((rd_T63 t713 x16_1).f0))).setCell ⟨gb721, 1, none⟩ (.int .i64 ((rd_T63 t713 x16_1).f1)))).cell? _ = some _ from hx725_0)); clear hn725_0; clear hn725_1; replace p725 := eq_true p725; replace q725 := eq_true q725)))
           go_ret
           exact ⟨by first | rfl | (simp [errW_none, errW_some] <;> rfl) | (simp only [← hji16]; first | rfl | (simp [errW_none, errW_some] <;> rfl)) | (simp [*, errW_none, errW_some] <;> rfl), by repeat (first | (with_reducible first|exact HB.out|apply bA|apply bN|apply bD | refine below_set ?_ GE721.out) | exact HB.out)⟩
         ·rw [if_neg c18] at H
          exact absurd H (by simp)
        ·rw [if_neg c17] at H
         exact absurd H (by simp)
       ·rw [if_neg c15] at H
        have c15b0 : (((rd_T63 t713 x16_1).f0) == 45) = false := beq_eq_false_iff_ne.mpr c15
        have c15b1 : (((rd_T63 t713 x16_1).f0) != 45) = true := bne_iff_ne.mpr c15
        have H' := Az.mk H
        clear H
        have p720 : 0 ≤ (x16_1 : Int) := of_decide_eq_true (by first|(with_reducible assumption)|assumption)
        have q720 : x16_1 < (t713.length : Int) := of_decide_eq_true (by first|(with_reducible assumption)|assumption)
        obtain ⟨ad720, e720, hx720_0, hx720_1⟩ := at_T63 (Kd.R_reads' HO_14.out).2.2 x16_1 p720 q720
        cases e720
        replace p720 := eq_true p720
        replace q720 := eq_true q720
        go_wp2_with (first | ((with_reducible refine gate_dst (N := 7) rfl ?_); refine box_event ?hg (N := 7) ?hd (cs := #[.int .u8 0, .int .i64 0]) (t := 63) ?hr ?_; (case hd => rfl); (case hg => rfl); (case hr => first | (go_simp; done) | (go_simp; rfl)); intro gb721 hg w30 hbox hb; have n0_ := Az.mk (Kd.Rb (by (with_reducible repeat first|apply Kd.Ra|apply Kd.Rn|apply Kd.Rw); exact HO_5.out) hb); have n1_ := Az.mk (Kd.Rb (Kd.R_elderB (by (with_reducible repeat first|apply Kd.Ra|apply Kd.Rn|apply Kd.Rw); exact HO_14.out) gb721 (Nat.le_of_eq hg.symm)) hb); have n2_ := Az.mk (bS (by repeat first|exact HB.out|apply bA|apply bN|apply bD) hb); have n3_ := Az.mk (hbox); have n4_ := Az.mk ((by rw [hg]; exact (bZ (by repeat first|exact HB.out|apply bA|apply bN|apply bD)) : w.heap.size ≤ gb721)); have n5_ := Az.mk ((by rw [hg]; exact (bZ (by repeat first|exact HB.out|apply bA|apply bN|apply bD)) : w.heap.size ≤ gb721)); clear HO_5; clear HO_14; clear HB; have HO_5 := n0_; have HO_14 := n1_; have HB := n2_; have BK721 := n3_; have GW721 := n4_; have GE721 := n5_; clear n0_ n1_ n2_ n3_ n4_ n5_; clear hb hbox hg; have hcz31_0 : w30.cell? ⟨gb721, 0, none⟩ = some (.int .u8 0) := (blk_cell BK721.out 0).trans rfl; have hcz31_1 : w30.cell? ⟨gb721, 1, none⟩ = some (.int .i64 0) := (blk_cell BK721.out 1).trans rfl; have hfz31_0 := blk_frozen BK721.out 0; have hfz31_1 := blk_frozen BK721.out 1))
        repeat (go_quiet (first | ((with_reducible refine gate_dst (N := 7) rfl ?_); refine box_event ?hg (N := 7) ?hd (cs := #[.int .u8 0, .int .i64 0]) (t := 63) ?hr ?_; (case hd => rfl); (case hg => rfl); (case hr => first | (go_simp; done) | (go_simp; rfl)); intro gb721 hg w30 hbox hb; have n0_ := Az.mk (Kd.Rb (by (with_reducible repeat first|apply Kd.Ra|apply Kd.Rn|apply Kd.Rw); exact HO_5.out) hb); have n1_ := Az.mk (Kd.Rb (Kd.R_elderB (by (with_reducible repeat first|apply Kd.Ra|apply Kd.Rn|apply Kd.Rw); exact HO_14.out) gb721 (Nat.le_of_eq hg.symm)) hb); have n2_ := Az.mk (bS (by repeat first|exact HB.out|apply bA|apply bN|apply bD) hb); have n3_ := Az.mk (hbox); have n4_ := Az.mk ((by rw [hg]; exact (bZ (by repeat first|exact HB.out|apply bA|apply bN|apply bD)) : w.heap.size ≤ gb721)); have n5_ := Az.mk ((by rw [hg]; exact (bZ (by repeat first|exact HB.out|apply bA|apply bN|apply bD)) : w.heap.size ≤ gb721)); clear HO_5; clear HO_14; clear HB; have HO_5 := n0_; have HO_14 := n1_; have HB := n2_; have BK721 := n3_; have GW721 := n4_; have GE721 := n5_; clear n0_ n1_ n2_ n3_ n4_ n5_; clear hb hbox hg; have hcz31_0 : w30.cell? ⟨gb721, 0, none⟩ = some (.int .u8 0) := (blk_cell BK721.out 0).trans rfl; have hcz31_1 : w30.cell? ⟨gb721, 1, none⟩ = some (.int .i64 0) := (blk_cell BK721.out 1).trans rfl; have hfz31_0 := blk_frozen BK721.out 0; have hfz31_1 := blk_frozen BK721.out 1)); try go_wp2_with (first | ((with_reducible refine gate_dst (N := 7) rfl ?_); refine box_event ?hg (N := 7) ?hd (cs := #[.int .u8 0, .int .i64 0]) (t := 63) ?hr ?_; (case hd => rfl); (case hg => rfl); (case hr => first | (go_simp; done) | (go_simp; rfl)); intro gb721 hg w30 hbox hb; have n0_ := Az.mk (Kd.Rb (by (with_reducible repeat first|apply Kd.Ra|apply Kd.Rn|apply Kd.Rw); exact HO_5.out) hb); have n1_ := Az.mk (Kd.Rb (Kd.R_elderB (by (with_reducible repeat first|apply Kd.Ra|apply Kd.Rn|apply Kd.Rw); exact HO_14.out) gb721 (Nat.le_of_eq hg.symm)) hb); have n2_ := Az.mk (bS (by repeat first|exact HB.out|apply bA|apply bN|apply bD) hb); have n3_ := Az.mk (hbox); have n4_ := Az.mk ((by rw [hg]; exact (bZ (by repeat first|exact HB.out|apply bA|apply bN|apply bD)) : w.heap.size ≤ gb721)); have n5_ := Az.mk ((by rw [hg]; exact (bZ (by repeat first|exact HB.out|apply bA|apply bN|apply bD)) : w.heap.size ≤ gb721)); clear HO_5; clear HO_14; clear HB; have HO_5 := n0_; have HO_14 := n1_; have HB := n2_; have BK721 := n3_; have GW721 := n4_; have GE721 := n5_; clear n0_ n1_ n2_ n3_ n4_ n5_; clear hb hbox hg; have hcz31_0 : w30.cell? ⟨gb721, 0, none⟩ = some (.int .u8 0) := (blk_cell BK721.out 0).trans rfl; have hcz31_1 : w30.cell? ⟨gb721, 1, none⟩ = some (.int .i64 0) := (blk_cell BK721.out 1).trans rfl; have hfz31_0 := blk_frozen BK721.out 0; have hfz31_1 := blk_frozen BK721.out 1)))
        go_roundg k1
        case measure => have := HK1.out; omega
        case rel => exact ⟨(x5_1), (wrap64 (x16_1 + 1)), (by first | rfl | (simp; done) | (simp [*]; done)), H', ⟨by have := HK1.out; omega⟩, ⟨by (with_reducible repeat first|apply Kd.Ra|apply Kd.Rn|apply Kd.Rw); exact Kd.R_mono (Kd.R_far (p := ⟨gb721, 1, none⟩) (Kd.R_far (p := ⟨gb721, 0, none⟩) (Kd.R_types HO_5.out BK721.out (by decide)) (fun _ hk => hk.2) (.int .u8 ((rd_T63 t713 x16_1).f0))) (fun _ hk => hk.2) (.int .i64 ((rd_T63 t713 x16_1).f1))) (fun _ hk => trivial)⟩, ⟨by (with_reducible repeat first|apply Kd.Ra|apply Kd.Rn|apply Kd.Rw); exact Kd.R_mono (Kd.R_far (p := ⟨gb721, 1, none⟩) (Kd.R_far (p := ⟨gb721, 0, none⟩) (Kd.R_mono HO_14.out (fun k_ hk => (⟨hk, hk.2⟩ : _ ∧ k_ ≠ gb721))) (fun _ hk => hk.2) (.int .u8 ((rd_T63 t713 x16_1).f0))) (fun _ hk => hk.2) (.int .i64 ((rd_T63 t713 x16_1).f1))) (fun _ hk => trivial)⟩, ⟨by repeat (first | (with_reducible first|exact HB.out|apply bA|apply bN|apply bD | refine below_set ?_ GE721.out) | exact HB.out)⟩⟩
     ·rw [if_neg c9] at H
      exact absurd H (by simp)
    ·rw [if_neg c8] at H
     exact absurd H (by simp)
   ·rw [if_neg c7] at H
    have c7b0 : decide (x16_1 < (t713.length : Int)) = false := decide_eq_false c7
    clear c7
    obtain rfl := Option.some.inj H
    go_wp2
    repeat (go_quiet (fail); try go_wp2)
    go_ret
    exact ⟨by first | rfl | (simp [errW_none, errW_some] <;> rfl) | (simp [*, errW_none, errW_some] <;> rfl), by repeat (first | (with_reducible first|exact HB.out|apply bA|apply bN|apply bD) | exact HB.out)⟩
-- NOT PRINTED: function 7 (laws_FnAlive)
-- NOT PRINTED: function 46 (spec_DrawCellsFit)
def laws_elSame.l0 : Nat → List Int → List Int → Int → Int → Option (Bool)
 | 0, _, _, _, _ => none
 | k + 1, x0, x1, x10, x11 => if x11 < x10 then (if 0 ≤ x11 then (if x11 < (x0.length : Int) then (if x11 < (x1.length : Int) then (if (rd x0 x11) = (rd x1 x11) then (laws_elSame.l0 k x0 x1 x10 (wrap64 (x11 + 1))) else (some false)) else (none)) else (none)) else (none)) else (some ((x0.length : Int) == (x1.length : Int)))
def laws_elSame.f (k : Nat) (l0 : List Int) (l1 : List Int) : Option (Bool) := laws_elSame.l0 k l0 l1 (mn (l0.length : Int) (l1.length : Int)) 0
set_option maxHeartbeats 8000000 in
set_option maxRecDepth 100000 in
theorem laws_elSame.calls (k : Nat) (A0 : Option Addr) (c0 : Nat) (l0 : List Int) (A1 : Option Addr) (c1 : Nat) (l1 : List Int) (r : Bool) (w : World) (hr0 : Kd.C (Kd.int .i64) w A0 l0.length l0) (hc0 : l0.length ≤ c0) (hr1 : Kd.C (Kd.int .i64) w A1 l1.length l1) (hc1 : l1.length ≤ c1) (h : laws_elSame.f k l0 l1 = some r) :
  Calls Tryz.prog 23 #[.slice A0 l0.length c0, .slice A1 l1.length c1] w fun e w' => e = .returned (.bool r) ∧ Below w.heap.size w w' := by
 have HR0 := Az.mk hr0
 have HC0 := Az.mk hc0
 clear hr0 hc0
 have HR1 := Az.mk hr1
 have HC1 := Az.mk hc1
 clear hr1 hc1
 have HB := Az.mk (Below.refl w.heap.size w)
 have H : (laws_elSame.l0 k l0 l1 (mn (l0.length : Int) (l1.length : Int)) 0) = some r := h
 clear h
 obtain ⟨ji3, hji3⟩ : ∃ j_ : Int, (mn (l0.length : Int) (l1.length : Int)) = j_ := ⟨_, rfl⟩
 replace H : (laws_elSame.l0 k l0 l1 ji3 0) = some r := by first | (rw [hji3] at H; exact H) | (simp only [hji3] at H ⊢; exact H)
 (try (have hji3l : 0 ≤ ji3 := by (rw [← hji3]; unfold mn; (repeat' split) <;> omega)))
 (try (have hji3m : 0 ≤ ji3 := by omega))
 have hji3_ : (if (l1.length : Int) < (l0.length : Int) then (l1.length : Int) else (l0.length : Int)) = ji3 := hji3
 clear hji3_
 by_cases hmn : l1.length < l0.length
 ·obtain rfl : (l1.length : Int) = ji3 := (by rw [← hji3]; unfold mn; (repeat' split) <;> omega)
  try clear hji3 hji3l hji3m
  have H' := Az.mk H
  clear H
  go_enter Tryz.func23, Tryz.ntmps23
  go_wp2
  repeat (go_quiet (fail); try go_wp2)
  go_loopg [11] k (fun kq v11 w' => ∃ (x11_1 : Int), v11 = .int .i64 x11_1 ∧ Az (laws_elSame.l0 kq l0 l1 (l1.length : Int) x11_1 = some r) ∧ Az (kq ≤ k) ∧ Az (Below w.heap.size w w'))
  case atStart => exact ⟨(0), (by first | rfl | (simp; done) | (simp [*]; done)), H', ⟨Nat.le_refl _⟩, ⟨by repeat (first | (with_reducible first|exact HB.out|apply bA|apply bN|apply bD) | exact HB.out)⟩⟩
  case round =>
   clear H'
   try clear c1
   try clear c2
   try clear p2
   obtain ⟨x11_1, rfl, HA, HK1, HB⟩ := hrel
   cases gk with
   | zero => exact absurd HA.out (by simp [laws_elSame.l0])
   | succ k1 =>
    have H := HA.out
    clear HA
    simp only [laws_elSame.l0] at H
    by_cases c4 : x11_1 < (l1.length : Int)
    ·rw [if_pos c4] at H
     have c4b0 : decide (x11_1 < (l1.length : Int)) = true := decide_eq_true c4
     clear c4
     by_cases c5 : 0 ≤ x11_1
     ·rw [if_pos c5] at H
      have c5b0 : decide (0 ≤ x11_1) = true := decide_eq_true c5
      clear c5
      by_cases c6 : x11_1 < (l0.length : Int)
      ·rw [if_pos c6] at H
       have c6b0 : decide (x11_1 < (l0.length : Int)) = true := decide_eq_true c6
       clear c6
       by_cases c7 : x11_1 < (l1.length : Int)
       ·rw [if_pos c7] at H
        have c7b0 : decide (x11_1 < (l1.length : Int)) = true := decide_eq_true c7
        clear c7
        by_cases c8 : (rd l0 x11_1) = (rd l1 x11_1)
        ·rw [if_pos c8] at H
         have c8b0 : ((rd l0 x11_1) == (rd l1 x11_1)) = true := beq_iff_eq.mpr c8
         have c8b1 : ((rd l0 x11_1) != (rd l1 x11_1)) = false := bne_eq_false_iff_eq.mpr c8
         clear c8
         have H' := Az.mk H
         clear H
         have p401 : 0 ≤ (x11_1 : Int) := of_decide_eq_true (by first|(with_reducible assumption)|assumption)
         have q401 : x11_1 < (l0.length : Int) := of_decide_eq_true (by first|(with_reducible assumption)|assumption)
         obtain ⟨ad401, e401, hx401_0⟩ := Kd.at_int HR0.out x11_1 p401 q401
         cases e401
         replace hx401_0 := (HB.out.cell (World.block_lt_of_cell? w _ hx401_0)).trans hx401_0
         replace p401 := eq_true p401
         replace q401 := eq_true q401
         have p402 : 0 ≤ (x11_1 : Int) := of_decide_eq_true (by first|(with_reducible assumption)|assumption)
         have q402 : x11_1 < (l1.length : Int) := of_decide_eq_true (by first|(with_reducible assumption)|assumption)
         obtain ⟨ad402, e402, hx402_0⟩ := Kd.at_int HR1.out x11_1 p402 q402
         cases e402
         replace hx402_0 := (HB.out.cell (World.block_lt_of_cell? w _ hx402_0)).trans hx402_0
         replace p402 := eq_true p402
         replace q402 := eq_true q402
         go_wp2
         repeat (go_quiet (fail); try go_wp2)
         go_roundg k1
         case measure => have := HK1.out; omega
         case rel => exact ⟨(wrap64 (x11_1 + 1)), (by first | rfl | (simp; done) | (simp [*]; done)), H', ⟨by have := HK1.out; omega⟩, ⟨by repeat (first | (with_reducible first|exact HB.out|apply bA|apply bN|apply bD) | exact HB.out)⟩⟩
        ·rw [if_neg c8] at H
         have c8b0 : ((rd l0 x11_1) == (rd l1 x11_1)) = false := beq_eq_false_iff_ne.mpr c8
         have c8b1 : ((rd l0 x11_1) != (rd l1 x11_1)) = true := bne_iff_ne.mpr c8
         obtain rfl := Option.some.inj H
         have p401 : 0 ≤ (x11_1 : Int) := of_decide_eq_true (by first|(with_reducible assumption)|assumption)
         have q401 : x11_1 < (l0.length : Int) := of_decide_eq_true (by first|(with_reducible assumption)|assumption)
         obtain ⟨ad401, e401, hx401_0⟩ := Kd.at_int HR0.out x11_1 p401 q401
         cases e401
         replace hx401_0 := (HB.out.cell (World.block_lt_of_cell? w _ hx401_0)).trans hx401_0
         replace p401 := eq_true p401
         replace q401 := eq_true q401
         have p402 : 0 ≤ (x11_1 : Int) := of_decide_eq_true (by first|(with_reducible assumption)|assumption)
         have q402 : x11_1 < (l1.length : Int) := of_decide_eq_true (by first|(with_reducible assumption)|assumption)
         obtain ⟨ad402, e402, hx402_0⟩ := Kd.at_int HR1.out x11_1 p402 q402
         cases e402
         replace hx402_0 := (HB.out.cell (World.block_lt_of_cell? w _ hx402_0)).trans hx402_0
         replace p402 := eq_true p402
         replace q402 := eq_true q402
         go_wp2
         repeat (go_quiet (fail); try go_wp2)
         go_ret
         exact ⟨by first | rfl | (simp [errW_none, errW_some] <;> rfl) | (skip; first | rfl | (simp [errW_none, errW_some] <;> rfl)) | (simp [*, errW_none, errW_some] <;> rfl), by repeat (first | (with_reducible first|exact HB.out|apply bA|apply bN|apply bD) | exact HB.out)⟩
       ·rw [if_neg c7] at H
        exact absurd H (by simp)
      ·rw [if_neg c6] at H
       exact absurd H (by simp)
     ·rw [if_neg c5] at H
      exact absurd H (by simp)
    ·rw [if_neg c4] at H
     have c4b0 : decide (x11_1 < (l1.length : Int)) = false := decide_eq_false c4
     clear c4
     obtain rfl := Option.some.inj H
     go_wp2
     repeat (go_quiet (fail); try go_wp2)
     go_ret
     exact ⟨by first | rfl | (simp [errW_none, errW_some] <;> rfl) | (skip; first | rfl | (simp [errW_none, errW_some] <;> rfl)) | (simp [*, errW_none, errW_some] <;> rfl), by repeat (first | (with_reducible first|exact HB.out|apply bA|apply bN|apply bD) | exact HB.out)⟩
 ·obtain rfl : (l0.length : Int) = ji3 := (by rw [← hji3]; unfold mn; (repeat' split) <;> omega)
  try clear hji3 hji3l hji3m
  have H' := Az.mk H
  clear H
  go_enter Tryz.func23, Tryz.ntmps23
  go_wp2
  repeat (go_quiet (fail); try go_wp2)
  go_loopg [11] k (fun kq v11 w' => ∃ (x11_1 : Int), v11 = .int .i64 x11_1 ∧ Az (laws_elSame.l0 kq l0 l1 (l0.length : Int) x11_1 = some r) ∧ Az (kq ≤ k) ∧ Az (Below w.heap.size w w'))
  case atStart => exact ⟨(0), (by first | rfl | (simp; done) | (simp [*]; done)), H', ⟨Nat.le_refl _⟩, ⟨by repeat (first | (with_reducible first|exact HB.out|apply bA|apply bN|apply bD) | exact HB.out)⟩⟩
  case round =>
   clear H'
   try clear c1
   try clear c2
   try clear p2
   obtain ⟨x11_1, rfl, HA, HK1, HB⟩ := hrel
   cases gk with
   | zero => exact absurd HA.out (by simp [laws_elSame.l0])
   | succ k1 =>
    have H := HA.out
    clear HA
    simp only [laws_elSame.l0] at H
    by_cases c4 : x11_1 < (l0.length : Int)
    ·rw [if_pos c4] at H
     have c4b0 : decide (x11_1 < (l0.length : Int)) = true := decide_eq_true c4
     clear c4
     by_cases c5 : 0 ≤ x11_1
     ·rw [if_pos c5] at H
      have c5b0 : decide (0 ≤ x11_1) = true := decide_eq_true c5
      clear c5
      by_cases c6 : x11_1 < (l0.length : Int)
      ·rw [if_pos c6] at H
       have c6b0 : decide (x11_1 < (l0.length : Int)) = true := decide_eq_true c6
       clear c6
       by_cases c7 : x11_1 < (l1.length : Int)
       ·rw [if_pos c7] at H
        have c7b0 : decide (x11_1 < (l1.length : Int)) = true := decide_eq_true c7
        clear c7
        by_cases c8 : (rd l0 x11_1) = (rd l1 x11_1)
        ·rw [if_pos c8] at H
         have c8b0 : ((rd l0 x11_1) == (rd l1 x11_1)) = true := beq_iff_eq.mpr c8
         have c8b1 : ((rd l0 x11_1) != (rd l1 x11_1)) = false := bne_eq_false_iff_eq.mpr c8
         clear c8
         have H' := Az.mk H
         clear H
         have p401 : 0 ≤ (x11_1 : Int) := of_decide_eq_true (by first|(with_reducible assumption)|assumption)
         have q401 : x11_1 < (l0.length : Int) := of_decide_eq_true (by first|(with_reducible assumption)|assumption)
         obtain ⟨ad401, e401, hx401_0⟩ := Kd.at_int HR0.out x11_1 p401 q401
         cases e401
         replace hx401_0 := (HB.out.cell (World.block_lt_of_cell? w _ hx401_0)).trans hx401_0
         replace p401 := eq_true p401
         replace q401 := eq_true q401
         have p402 : 0 ≤ (x11_1 : Int) := of_decide_eq_true (by first|(with_reducible assumption)|assumption)
         have q402 : x11_1 < (l1.length : Int) := of_decide_eq_true (by first|(with_reducible assumption)|assumption)
         obtain ⟨ad402, e402, hx402_0⟩ := Kd.at_int HR1.out x11_1 p402 q402
         cases e402
         replace hx402_0 := (HB.out.cell (World.block_lt_of_cell? w _ hx402_0)).trans hx402_0
         replace p402 := eq_true p402
         replace q402 := eq_true q402
         go_wp2
         repeat (go_quiet (fail); try go_wp2)
         go_roundg k1
         case measure => have := HK1.out; omega
         case rel => exact ⟨(wrap64 (x11_1 + 1)), (by first | rfl | (simp; done) | (simp [*]; done)), H', ⟨by have := HK1.out; omega⟩, ⟨by repeat (first | (with_reducible first|exact HB.out|apply bA|apply bN|apply bD) | exact HB.out)⟩⟩
        ·rw [if_neg c8] at H
         have c8b0 : ((rd l0 x11_1) == (rd l1 x11_1)) = false := beq_eq_false_iff_ne.mpr c8
         have c8b1 : ((rd l0 x11_1) != (rd l1 x11_1)) = true := bne_iff_ne.mpr c8
         obtain rfl := Option.some.inj H
         have p401 : 0 ≤ (x11_1 : Int) := of_decide_eq_true (by first|(with_reducible assumption)|assumption)
         have q401 : x11_1 < (l0.length : Int) := of_decide_eq_true (by first|(with_reducible assumption)|assumption)
         obtain ⟨ad401, e401, hx401_0⟩ := Kd.at_int HR0.out x11_1 p401 q401
         cases e401
         replace hx401_0 := (HB.out.cell (World.block_lt_of_cell? w _ hx401_0)).trans hx401_0
         replace p401 := eq_true p401
         replace q401 := eq_true q401
         have p402 : 0 ≤ (x11_1 : Int) := of_decide_eq_true (by first|(with_reducible assumption)|assumption)
         have q402 : x11_1 < (l1.length : Int) := of_decide_eq_true (by first|(with_reducible assumption)|assumption)
         obtain ⟨ad402, e402, hx402_0⟩ := Kd.at_int HR1.out x11_1 p402 q402
         cases e402
         replace hx402_0 := (HB.out.cell (World.block_lt_of_cell? w _ hx402_0)).trans hx402_0
         replace p402 := eq_true p402
         replace q402 := eq_true q402
         go_wp2
         repeat (go_quiet (fail); try go_wp2)
         go_ret
         exact ⟨by first | rfl | (simp [errW_none, errW_some] <;> rfl) | (skip; first | rfl | (simp [errW_none, errW_some] <;> rfl)) | (simp [*, errW_none, errW_some] <;> rfl), by repeat (first | (with_reducible first|exact HB.out|apply bA|apply bN|apply bD) | exact HB.out)⟩
       ·rw [if_neg c7] at H
        exact absurd H (by simp)
      ·rw [if_neg c6] at H
       exact absurd H (by simp)
     ·rw [if_neg c5] at H
      exact absurd H (by simp)
    ·rw [if_neg c4] at H
     have c4b0 : decide (x11_1 < (l0.length : Int)) = false := decide_eq_false c4
     clear c4
     obtain rfl := Option.some.inj H
     go_wp2
     repeat (go_quiet (fail); try go_wp2)
     go_ret
     exact ⟨by first | rfl | (simp [errW_none, errW_some] <;> rfl) | (skip; first | rfl | (simp [errW_none, errW_some] <;> rfl)) | (simp [*, errW_none, errW_some] <;> rfl), by repeat (first | (with_reducible first|exact HB.out|apply bA|apply bN|apply bD) | exact HB.out)⟩
def spec_l1In.f (a0 : Int) (a1 : Int) (a2 : Int) : Option (Bool) := if a0 ≥ a1 then (some (decide (a0 ≤ a2))) else (some false)
set_option maxHeartbeats 8000000 in
set_option maxRecDepth 100000 in
theorem spec_l1In.calls (a0 : Int) (a1 : Int) (a2 : Int) (r : Bool) (w : World) (h : spec_l1In.f a0 a1 a2 = some r) :
  Calls Tryz.prog 71 #[.int .i64 a0, .int .i64 a1, .int .i64 a2] w fun e w' => e = .returned (.bool r) ∧ Drawn0 w w' := by
 have H : (if a0 ≥ a1 then (some (decide (a0 ≤ a2))) else (some false)) = some r := h
 clear h
 by_cases c4 : a0 ≥ a1
 ·rw [if_pos c4] at H
  have c4b0 : decide (a1 ≤ a0) = true := decide_eq_true c4
  clear c4
  obtain rfl := Option.some.inj H
  go_enter Tryz.func71, Tryz.ntmps71
  go_wp2
  go_ret
  exact ⟨by first | rfl | (simp; done) | (simp [*]; done), by repeat (first | exact Drawn0.refl _ | apply Drawn0.step)⟩
 ·rw [if_neg c4] at H
  have c4b0 : decide (a1 ≤ a0) = false := decide_eq_false c4
  clear c4
  obtain rfl := Option.some.inj H
  go_enter Tryz.func71, Tryz.ntmps71
  go_wp2
  go_ret
  exact ⟨by first | rfl | (simp; done) | (simp [*]; done), by repeat (first | exact Drawn0.refl _ | apply Drawn0.step)⟩
def spec_AliveAt.j0 : Nat → Int → List (S63) → Bool → Option (List Int × Bool)
 | 0, _, _, _ => none
 | k + 1, x1, x6, x22 => if x22 = true then (some ((([] : List Int)), false)) else ((spec_l7Lives.f k x6).bind fun t697 => ((spec_l7Alive.f k t697 x1).bind fun t700 => (some (t700, true))))
def spec_AliveAt.f (k : Nat) (a0 : ByteArray) (a1 : Int) : Option (List Int × Bool) := (spec_l7Read.f k a0).bind fun bt689 => (if bt689.2 = true then ((spec_l1In.f a1 0 (wrap64 ((bt689.1.length : Int) - 1))).bind fun t693 => (spec_AliveAt.j0 k a1 bt689.1 (!t693))) else (spec_AliveAt.j0 k a1 bt689.1 true))
set_option maxHeartbeats 8000000 in
set_option maxRecDepth 100000 in
theorem spec_AliveAt.calls (k : Nat) (a0 : ByteArray) (a1 : Int) (r1 : List Int) (r2 : Bool) (w : World) (h : spec_AliveAt.f k a0 a1 = some (r1, r2)) :
  Calls Tryz.prog 43 #[.string a0, .int .i64 a1] w fun e w' => ∃ v0_ : Value, e = .returned (.tuple #[v0_, .bool r2]) ∧ Kd.R (Kd.int .i64) 3 w' w.heap.size (fun _ => True) v0_ r1 ∧ Below w.heap.size w w' := by
 have HB := Az.mk (Below.refl w.heap.size w)
 have H : ((spec_l7Read.f k a0).bind fun bt689 => (if bt689.2 = true then ((spec_l1In.f a1 0 (wrap64 ((bt689.1.length : Int) - 1))).bind fun t693 => (spec_AliveAt.j0 k a1 bt689.1 (!t693))) else (spec_AliveAt.j0 k a1 bt689.1 true))) = some (r1, r2) := h
 clear h
 replace H := Option.bind_eq_some_iff.mp H
 obtain ⟨⟨t689, t690⟩, A30, H⟩ := H
 replace H : (if t690 = true then ((spec_l1In.f a1 0 (wrap64 ((t689.length : Int) - 1))).bind fun t693 => (spec_AliveAt.j0 k a1 t689 (!t693))) else (spec_AliveAt.j0 k a1 t689 true)) = some (r1, r2) := H
 have A3 := Az.mk A30
 clear A30
 have HC4 := Az.mk H
 clear H
 go_enter Tryz.func43, Tryz.ntmps43
 go_upto_region 2 with (first | ((with_reducible refine gate_callee (f := 54) rfl ?_); refine goesL_ (some 10) rfl rfl Tryz.func54 (by kernel_rfl) rfl #[.string a0] rfl (by (try simp only [List.map_toArray, List.map_cons, List.map_nil]); first | done | rfl | (simp only [List.length_drop, List.length_take]; rfl)) ?_; (with_reducible refine (spec_l7Read.calls k a0 t689 t690 _ A3.out).mono ?_); rintro e w5 ⟨v691, rfl, ho0, hb⟩; refine ⟨_, rfl, ?_⟩; have n0_ := Az.mk (Kd.R_lower ho0 (bZ (by repeat first|exact HB.out|apply bA|apply bN|apply bD))); have n1_ := Az.mk (bS (by repeat first|exact HB.out|apply bA|apply bN|apply bD) hb); clear HB; have HO692 := n0_; have HB := n1_; clear n0_ n1_; (try clear hb); (try clear hb2); (try clear hk); (try clear hi); (try clear ho0)))
 (try simp only [Act.put, List.setIfInBounds_toArray, List.set_cons_zero, List.set_cons_succ])
 go_cut [22] (fun v22 wc => ∃ (kq : Nat) (x22_3 : Bool), v22 = .bool x22_3 ∧ Az (spec_AliveAt.j0 kq a1 t689 x22_3 = some (r1, r2)) ∧ Az (kq ≤ k) ∧ Az (Kd.R k63 63 wc w.heap.size (fun _ => True) v691 t689) ∧ Az (Below w.heap.size w wc))
 case first =>
  have H := HC4.out
  clear HC4
  by_cases c6 : t690 = true
  ·subst c6
   have H1 : ((spec_l1In.f a1 0 (wrap64 ((t689.length : Int) - 1))).bind fun t693 => (spec_AliveAt.j0 k a1 t689 (!t693))) = some (r1, r2) := by rw [if_pos rfl] at H; exact H
   clear H
   have H := H1
   clear H1
   replace H := Option.bind_eq_some_iff.mp H
   obtain ⟨t693, A70, H⟩ := H
   replace H : (spec_AliveAt.j0 k a1 t689 (!t693)) = some (r1, r2) := H
   have A7 := Az.mk A70
   clear A70
   have H' := Az.mk H
   clear H
   obtain ⟨Ao8, co8, eo8⟩ := Kd.R_slice HO692.out
   subst eo8
   go_wp2_with (first | (go_at_call 71; (with_reducible refine (spec_l1In.calls a1 0 (wrap64 ((t689.length : Int) - 1)) t693 _ A7.out).mono ?_); rintro e w' ⟨rfl, ⟨nd, rfl⟩⟩))
   go_meet
   case rel => exact ⟨_, (!t693), (by first | rfl | (simp; done) | (simp [*]; done)), H', ⟨by first | omega | exact Nat.le_refl _⟩, ⟨by (with_reducible repeat first|apply Kd.Ra|apply Kd.Rn|apply Kd.Rw); exact HO692.out⟩, ⟨by repeat (first | (with_reducible first|exact HB.out|apply bA|apply bN|apply bD) | exact HB.out)⟩⟩
  ·replace c6 := Bool.eq_false_iff.mpr c6
   subst c6
   have H1 : (spec_AliveAt.j0 k a1 t689 true) = some (r1, r2) := by rw [if_neg (show ¬ (false = true) by decide)] at H; exact H
   clear H
   have H := H1
   clear H1
   have H' := Az.mk H
   clear H
   go_wp2
   go_meet
   case rel => exact ⟨_, (true), (by first | rfl | (simp; done) | (simp [*]; done)), H', ⟨by first | omega | exact Nat.le_refl _⟩, ⟨by (with_reducible repeat first|apply Kd.Ra|apply Kd.Rn|apply Kd.Rw); exact HO692.out⟩, ⟨by repeat (first | (with_reducible first|exact HB.out|apply bA|apply bN|apply bD) | exact HB.out)⟩⟩
 case rest =>
  clear HC4
  try clear p2
  try clear c4
  try clear c5
  try clear c6
  try clear p6
  obtain ⟨kq, x22_3, rfl, HA, HJ3, HO_6, HB⟩ := hcut
  cases kq with
  | zero => exact absurd HA.out (by simp [spec_AliveAt.j0])
  | succ kj3 =>
   have H := HA.out
   clear HA
   simp only [spec_AliveAt.j0] at H
   by_cases c9 : x22_3 = true
   ·subst c9
    have H1 : (some ((([] : List Int)), false)) = some (r1, r2) := by rw [if_pos rfl] at H; exact H
    clear H
    have H := H1
    clear H1
    obtain ⟨y694, hy694⟩ : ∃ y_ : List Int, y_ = (([] : List Int)) := ⟨_, rfl⟩
    replace H : (some (y694, false)) = some (r1, r2) := by first | (rw [hy694]; with_reducible exact H) | (have H2_ := (Option.bind_some _ _).symm.trans H; rw [hy694]; with_reducible exact H2_) | (have H2_ := (Option.bind_some _ _).symm.trans H; with_reducible exact H2_) | with_reducible exact H | (rw [hy694]; exact H) | exact H
    have Ny694 := Az.mk hy694
    clear hy694
    simp only [Option.some.injEq, Prod.mk.injEq] at H
    obtain ⟨rfl, rfl⟩ := H
    go_wp2_with (first | ((with_reducible refine gate_dst (N := 23) rfl ?_); (try (refine gate_guard (by rfl) ?_; dsimp only)); refine Kd.R_lit (Kd.int .i64) _ 3 ?hg (N := 23) ?hd (xs := ([] : List Int)) (inner := []) (ok := fun _ => True) (okp := fun _ => True) ?hr ?hp (fun _ hk => hk) trivial (Below.refl _ _) (Nat.le_refl _) (by simp) ?_; (case hd => rfl); (case hg => rfl); (case hr => first | (go_simp; done) | (go_simp; rfl)); (case hp => exact (Reps.none _ _)); intro v695 w10 ho11 hb hg_ hnew_; clear hg_ hnew_; (first | rw [← Ny694.out] at ho11 | (simp only [Int.reduceToNat] at ho11; rw [← Ny694.out] at ho11)); have n0_ := Az.mk (Kd.Rb (by (with_reducible repeat first|apply Kd.Ra|apply Kd.Rn|apply Kd.Rw); exact HO_6.out) hb); have n1_ := Az.mk (Kd.R_lower ho11 (bZ (by repeat first|exact HB.out|apply bA|apply bN|apply bD))); have n2_ := Az.mk (bS (by repeat first|exact HB.out|apply bA|apply bN|apply bD) hb); clear HO_6; clear HB; have HO_6 := n0_; have HO696 := n1_; have HB := n2_; clear n0_ n1_ n2_; clear hb ho11))
    go_ret2
    exact ⟨_, by first | rfl | (simp [errW_none, errW_some] <;> rfl) | (simp [*, errW_none, errW_some] <;> rfl), by (with_reducible repeat first|apply Kd.Ra|apply Kd.Rn|apply Kd.Rw); exact HO696.out, by repeat (first | (with_reducible first|exact HB.out|apply bA|apply bN|apply bD) | exact HB.out)⟩
   ·replace c9 := Bool.eq_false_iff.mpr c9
    subst c9
    have H1 : ((spec_l7Lives.f kj3 t689).bind fun t697 => ((spec_l7Alive.f kj3 t697 a1).bind fun t700 => (some (t700, true)))) = some (r1, r2) := by rw [if_neg (show ¬ (false = true) by decide)] at H; exact H
    clear H
    have H := H1
    clear H1
    replace H := Option.bind_eq_some_iff.mp H
    obtain ⟨t697, A120, H⟩ := H
    replace H : ((spec_l7Alive.f kj3 t697 a1).bind fun t700 => (some (t700, true))) = some (r1, r2) := H
    have A12 := Az.mk A120
    clear A120
    replace H := Option.bind_eq_some_iff.mp H
    obtain ⟨t700, A130, H⟩ := H
    replace H : (some (t700, true)) = some (r1, r2) := H
    have A13 := Az.mk A130
    clear A130
    simp only [Option.some.injEq, Prod.mk.injEq] at H
    obtain ⟨rfl, rfl⟩ := H
    obtain ⟨Ao14, co14, eo14⟩ := Kd.R_slice HO_6.out
    subst eo14
    go_wp2_with (first | ((with_reducible refine gate_callee (f := 55) rfl ?_); refine goesL_ (some 25) rfl rfl Tryz.func55 (by kernel_rfl) rfl #[.slice Ao14 t689.length co14] rfl (by (try simp only [List.map_toArray, List.map_cons, List.map_nil]); first | done | rfl | (simp only [List.length_drop, List.length_take]; rfl)) ?_; (with_reducible refine (spec_l7Lives.calls kj3 _ _ t689 t697 _ ?side1 ?side2 A12.out).mono ?_); (case side1 => repeat (first | exact (Kd.R_reads' HO_6.out).2.2 | (with_reducible refine Kd.C_alloc ?_ _) | (with_reducible refine Kd.C_drewN ?_ _) | (with_reducible refine Kd.C_drew ?_))); (case side2 => exact (Kd.R_reads' HO_6.out).2.1); rintro e w15 ⟨v698, rfl, ho0, hb⟩; refine ⟨_, rfl, ?_⟩; have n0_ := Az.mk (Kd.Rb (by (with_reducible repeat first|apply Kd.Ra|apply Kd.Rn|apply Kd.Rw); exact HO_6.out) hb); have n1_ := Az.mk (Kd.R_lower ho0 (bZ (by repeat first|exact HB.out|apply bA|apply bN|apply bD))); have n2_ := Az.mk (bS (by repeat first|exact HB.out|apply bA|apply bN|apply bD) hb); clear HO_6; clear HB; have HO_6 := n0_; have HO699 := n1_; have HB := n2_; clear n0_ n1_ n2_; (try clear hb); (try clear hb2); (try clear hk); (try clear hi); (try clear ho0); obtain ⟨Ao16, co16, eo16⟩ := Kd.R_slice HO699.out; subst eo16) | ((with_reducible refine gate_callee (f := 66) rfl ?_); refine goesL_ (some 27) rfl rfl Tryz.func66 (by kernel_rfl) rfl #[.slice Ao16 t697.length co16, .int .i64 a1] rfl (by (try simp only [List.map_toArray, List.map_cons, List.map_nil]); first | done | rfl | (simp only [List.length_drop, List.length_take]; rfl)) ?_; (with_reducible refine (spec_l7Alive.calls kj3 _ _ t697 a1 t700 _ ?side1 ?side2 A13.out).mono ?_); (case side1 => repeat (first | exact (Kd.R_reads' HO699.out).2.2 | (with_reducible refine Kd.C_alloc ?_ _) | (with_reducible refine Kd.C_drewN ?_ _) | (with_reducible refine Kd.C_drew ?_))); (case side2 => exact (Kd.R_reads' HO699.out).2.1); rintro e w17 ⟨v701, rfl, ho0, hb⟩; refine ⟨_, rfl, ?_⟩; have n0_ := Az.mk (Kd.Rb (by (with_reducible repeat first|apply Kd.Ra|apply Kd.Rn|apply Kd.Rw); exact HO_6.out) hb); have n1_ := Az.mk (Kd.Rb (by (with_reducible repeat first|apply Kd.Ra|apply Kd.Rn|apply Kd.Rw); exact HO699.out) hb); have n2_ := Az.mk (Kd.R_lower ho0 (bZ (by repeat first|exact HB.out|apply bA|apply bN|apply bD))); have n3_ := Az.mk (bS (by repeat first|exact HB.out|apply bA|apply bN|apply bD) hb); clear HO_6; clear HO699; clear HB; have HO_6 := n0_; have HO699 := n1_; have HO702 := n2_; have HB := n3_; clear n0_ n1_ n2_ n3_; (try clear hb); (try clear hb2); (try clear hk); (try clear hi); (try clear ho0)))
    go_ret2
    exact ⟨_, by first | rfl | (simp [errW_none, errW_some] <;> rfl) | (simp [*, errW_none, errW_some] <;> rfl), by (with_reducible repeat first|apply Kd.Ra|apply Kd.Rn|apply Kd.Rw); exact HO702.out, by repeat (first | (with_reducible first|exact HB.out|apply bA|apply bN|apply bD) | exact HB.out)⟩
end Go.Proofs.YtndjbnkmhpbnpaaGreatDoor.Pr
namespace Go.Proofs.YtndjbnkmhpbnpaaGreatDoor
set_option linter.unusedVariables false
set_option linter.unusedSimpArgs false
open Go.RowKit Pl
def DrawnTK (w : World) (e : Ending) (w' : World) : Prop := ∃ (t : ByteArray) (k : Int), t.size ≤ 900000 ∧ -1 ≤ k ∧ k ≤ 600 ∧ e = .returned (.tuple #[.string t, .int .i64 k]) ∧ Below w.heap.size w w'
theorem seven_num (j7 j : Nat) (h7 : j7 < 8) (h : j < 7) : -1 ≤ ([(j7 : Int), 0, 1, 3, -1, 600, 2] : List Int).getD j 0 ∧ ([(j7 : Int), 0, 1, 3, -1, 600, 2] : List Int).getD j 0 ≤ 600 := by
 rcases (show j = 0 ∨ j = 1 ∨ j = 2 ∨ j = 3 ∨ j = 4 ∨ j = 5 ∨ j = 6 by omega) with rfl | rfl | rfl | rfl | rfl | rfl | rfl <;> simp [List.getD] <;> omega
set_option maxHeartbeats 1000000 in
theorem drawAlive_any (w : World) (v : Value) (n : Nat) (xs : Nat → Int) (hv : BArg w v n xs) (hn : n ≤ 1048576) : Calls Tryz.prog 41 #[v] w (DrawnTK w) := by
 go_enter Tryz.func41, Tryz.ntmps41
 go_wp2_with fail
 refine (open_any w v n xs hn hv).mono ?_
 rintro e w1 ⟨v1, n1, rfl, hd1, hb1⟩
 have HB1 := Lib.hid hb1
 have HD1 := Lib.hid hd1
 clear hb1 hd1
 go_wp2_with fail
 refine (anyev_any w1 w.heap.size v1 n1 xs 0 HD1.out (by omega)).mono ?_
 rintro e w2 ⟨t, q, h1, h2, h3, h4, rfl, hd2, hg2⟩
 have HD2 := Lib.hid hd2
 have HB2 := Lib.hid (below_new HB1.out hg2)
 clear hd2 hg2
 go_wp2_with fail
 refine (pick_any w2 w.heap.size v1 n1 xs q 8 HD2.out (by omega) (by omega) (by omega)).mono ?_
 rintro e w3 ⟨j7, hj7, rfl, hd3, hg3⟩
 have hj7' : j7 < 8 := by omega
 have HD3 := Lib.hid hd3
 have HB3 := Lib.hid (below_new HB2.out hg3)
 clear hd3 hg3 hj7
 go_wp2_with fail
 refine (num_any _ w.heap.size v1 n1 xs (q + 1) w3.heap.size 7 7 (fun i => ([(j7 : Int), 0, 1, 3, -1, 600, 2] : List Int).getD i 0) (HD3.out.grown (World.grownBy_alloc w3 (.cells #[.int .i64 (j7 : Int), .int .i64 0, .int .i64 1, .int .i64 3, .int .i64 (-1), .int .i64 600, .int .i64 2] 3) none) (by simp)) (by omega) (by omega) (by omega) (ISl_alloc w3 [(j7 : Int), 0, 1, 3, -1, 600, 2] 3) (Nat.ne_of_gt HD3.out.lt)).mono ?_
 rintro e w4 ⟨j, hj, rfl, hd4, hg4⟩
 have hs := seven_num j7 j hj7' hj
 have HB4 := Lib.hid (below_new HB3.out (World.grownBy.trans (World.grownBy_alloc w3 (.cells #[.int .i64 (j7 : Int), .int .i64 0, .int .i64 1, .int .i64 3, .int .i64 (-1), .int .i64 600, .int .i64 2] 3) (some w.heap.size)) hg4))
 generalize ([(j7 : Int), 0, 1, 3, -1, 600, 2] : List Int).getD j 0 = k at *
 clear hd4 hg4 hj
 go_wp2_with fail
 go_ret2
 exact ⟨t, k, by omega, hs.1, hs.2, rfl, HB4.out⟩
end Go.Proofs.YtndjbnkmhpbnpaaGreatDoor
