/- MFnReusesc: texts of this proof, joined. -/
import Derived.Test.YtndjbnkmhpbnpaaGreatDoorCa
import Derived.Test.YtndjbnkmhpbnpaaGreatDoorCb
import Derived.Test.YtndjbnkmhpbnpaaGreatDoorCc
import Derived.Test.YtndjbnkmhpbnpaaGreatDoorCd
import Derived.Test.YtndjbnkmhpbnpaaGreatDoorCe
import Derived.Test.YtndjbnkmhpbnpaaGreatDoorCf
import Derived.Test.YtndjbnkmhpbnpaaGreatDoorCg
import Derived.Test.YtndjbnkmhpbnpaaGreatDoorCh
import Derived.Test.YtndjbnkmhpbnpaaGreatDoorCi
import Derived.Test.YtndjbnkmhpbnpaaGreatDoorCj
import Derived.Test.YtndjbnkmhpbnpaaGreatDoorCk
import Derived.Test.YtndjbnkmhpbnpaaGreatDoorCl
import Derived.Test.YtndjbnkmhpbnpaaGreatDoorMFnReusesa
import Derived.Test.YtndjbnkmhpbnpaaGreatDoorMFnReusesb
namespace Go.Proofs.YtndjbnkmhpbnpaaGreatDoor.Pr
open Go.RowKit Go.Proofs.YtndjbnkmhpbnpaaGreatDoorW.PrintWords Go.Proofs.YtndjbnkmhpbnpaaGreatDoorW.PrintLast Go.Proofs.YtndjbnkmhpbnpaaGreatDoorW.PrintMore
attribute [local go_sem] max2_int min2_int max_two min_two max_three min_three max_four min_four   -- for this text's walks alone
set_option linter.unusedVariables false
set_option linter.unusedSimpArgs false
def spec_l8Cells.l0 : Nat → List Int → List Int → List (S63) → Int → Int → Option (List Int)
 | 0, _, _, _, _, _ => none
 | k + 1, x3, x4, x10, x11, x12 => if x12 < x11 then (if 0 ≤ x12 then (if x12 < (x10.length : Int) then (if ((rd_T63 x10 x12).f0) = 43 then ((spec_l8Free.f k x4).bind fun t332 => (if x4.length < 17592186044416 then (if x3.length < 17592186044416 then (spec_l8Cells.l0 k (x3 ++ [t332]) (x4 ++ [t332]) x10 x11 (wrap64 (x12 + 1))) else (none)) else (none))) else (if ((rd_T63 x10 x12).f0) = 45 then (if 0 ≤ (wrap64 (((rd_T63 x10 x12).f1) - 1)) then (if (wrap64 (((rd_T63 x10 x12).f1) - 1)) < (x3.length : Int) then ((spec_l7Without.f k x4 (rd x3 (wrap64 (((rd_T63 x10 x12).f1) - 1)))).bind fun t340 => (spec_l8Cells.l0 k x3 t340 x10 x11 (wrap64 (x12 + 1)))) else (none)) else (none)) else (spec_l8Cells.l0 k x3 x4 x10 x11 (wrap64 (x12 + 1))))) else (none)) else (none)) else (some x3)
def spec_l8Cells.f (k : Nat) (l0 : List (S63)) : Option (List Int) := spec_l8Cells.l0 k (([] : List Int)) (([] : List Int)) l0 (l0.length : Int) 0
set_option maxHeartbeats 8000000 in
set_option maxRecDepth 100000 in
theorem spec_l8Cells.calls (k : Nat) (A0 : Option Addr) (c0 : Nat) (l0 : List (S63)) (r : List Int) (w : World) (hr0 : Kd.C k63 w A0 l0.length l0) (hc0 : l0.length ≤ c0) (h : spec_l8Cells.f k l0 = some r) :
  Calls Tryz.prog 60 #[.slice A0 l0.length c0] w fun e w' => ∃ v0_ : Value, e = .returned (v0_) ∧ Kd.R (Kd.int .i64) 3 w' w.heap.size (fun _ => True) v0_ r ∧ Below w.heap.size w w' := by
 have hu63 := Tryz.underlying63
 have HR0 := Az.mk hr0
 have HC0 := Az.mk hc0
 clear hr0 hc0
 have HB := Az.mk (Below.refl w.heap.size w)
 have H : (spec_l8Cells.l0 k (([] : List Int)) (([] : List Int)) l0 (l0.length : Int) 0) = some r := h
 clear h
 obtain ⟨y324, hy324⟩ : ∃ y_ : List Int, y_ = (([] : List Int)) := ⟨_, rfl⟩
 replace H : (spec_l8Cells.l0 k y324 (([] : List Int)) l0 (l0.length : Int) 0) = some r := by first | (rw [hy324]; with_reducible exact H) | (have H2_ := (Option.bind_some _ _).symm.trans H; rw [hy324]; with_reducible exact H2_) | (have H2_ := (Option.bind_some _ _).symm.trans H; with_reducible exact H2_) | with_reducible exact H | (rw [hy324]; exact H) | exact H
 have Ny324 := Az.mk hy324
 clear hy324
 obtain ⟨y327, hy327⟩ : ∃ y_ : List Int, y_ = (([] : List Int)) := ⟨_, rfl⟩
 replace H : (spec_l8Cells.l0 k y324 y327 l0 (l0.length : Int) 0) = some r := by first | (rw [hy327]; with_reducible exact H) | (have H2_ := (Option.bind_some _ _).symm.trans H; rw [hy327]; with_reducible exact H2_) | (have H2_ := (Option.bind_some _ _).symm.trans H; with_reducible exact H2_) | with_reducible exact H | (rw [hy327]; exact H) | exact H
 have Ny327 := Az.mk hy327
 clear hy327
 have H' := Az.mk H
 clear H
 go_enter Tryz.func60, Tryz.ntmps60
 go_wp2_with (first | ((with_reducible refine gate_dst (N := 8) rfl ?_); refine Kd.R_lit (Kd.int .i64) _ 3 ?hg (N := 8) ?hd (xs := ([] : List Int)) (inner := []) (ok := fun _ => True) (okp := fun _ => True) ?hr ?hp (fun _ hk => hk) trivial (Below.refl _ _) (Nat.le_refl _) (by simp) ?_; (case hd => rfl); (case hg => rfl); (case hr => first | (go_simp; done) | (go_simp; rfl)); (case hp => exact (Reps.none _ _)); intro v325 w2 ho3 hb hg_ hnew_; clear hg_ hnew_; (first | rw [← Ny324.out] at ho3 | (simp only [Int.reduceToNat] at ho3; rw [← Ny324.out] at ho3)); have n0_ := Az.mk (Kd.R_lower ho3 (bZ (by repeat first|exact HB.out|apply bA|apply bN|apply bD))); have n1_ := Az.mk (bS (by repeat first|exact HB.out|apply bA|apply bN|apply bD) hb); clear HB; have HO326 := n0_; have HB := n1_; clear n0_ n1_; clear hb ho3) | ((with_reducible refine gate_dst (N := 9) rfl ?_); refine Kd.R_lit (Kd.int .i64) _ 3 ?hg (N := 9) ?hd (xs := ([] : List Int)) (inner := []) (ok := fun _ => True) (okp := fun _ => True) ?hr ?hp (fun _ hk => hk) trivial (Below.refl _ _) (Nat.le_refl _) (by simp) ?_; (case hd => rfl); (case hg => rfl); (case hr => first | (go_simp; done) | (go_simp; rfl)); (case hp => exact (Reps.none _ _)); intro v328 w4 ho5 hb hg_ hnew_; clear hg_ hnew_; (first | rw [← Ny327.out] at ho5 | (simp only [Int.reduceToNat] at ho5; rw [← Ny327.out] at ho5)); have n0_ := Az.mk (Kd.R_elder' (by (with_reducible repeat first|apply Kd.Ra|apply Kd.Rn|apply Kd.Rw); exact HO326.out) (Kd.R_base ho5) hb); have n1_ := Az.mk (Kd.R_lower (Kd.R_new' ho5 (Kd.R_lt (by (with_reducible repeat first|apply Kd.Ra|apply Kd.Rn|apply Kd.Rw); exact HO326.out))) (bZ (by repeat first|exact HB.out|apply bA|apply bN|apply bD))); have n2_ := Az.mk (bS (by repeat first|exact HB.out|apply bA|apply bN|apply bD) hb); clear HO326; clear HB; have HO326 := n0_; have HO329 := n1_; have HB := n2_; clear n0_ n1_ n2_; clear hb ho5))
 go_loopg [3, 4, 12] k (fun kq v3 v4 v12 w' => ∃ (x3_1 : List Int) (x4_1 : List Int) (x12_1 : Int), v12 = .int .i64 x12_1 ∧ Az (spec_l8Cells.l0 kq x3_1 x4_1 l0 (l0.length : Int) x12_1 = some r) ∧ Az (kq ≤ k) ∧ Az (Kd.R (Kd.int .i64) 3 w' w.heap.size (fun k_ => some k_ ≠ (v4 : Value).ownBlock) v3 x3_1) ∧ Az (Kd.R (Kd.int .i64) 3 w' w.heap.size (fun k_ => some k_ ≠ (v3 : Value).ownBlock) v4 x4_1) ∧ Az (Below w.heap.size w w'))
 case atStart => exact ⟨(y324), (y327), (0), (by first | rfl | (simp; done) | (simp [*]; done)), H', ⟨Nat.le_refl _⟩, ⟨by (with_reducible repeat first|apply Kd.Ra|apply Kd.Rn|apply Kd.Rw); exact Kd.R_mono HO326.out (fun _ hk => hk.2)⟩, ⟨by (with_reducible repeat first|apply Kd.Ra|apply Kd.Rn|apply Kd.Rw); exact Kd.R_mono HO329.out (fun _ hk => hk.2)⟩, ⟨by repeat (first | (with_reducible first|exact HB.out|apply bA|apply bN|apply bD) | exact HB.out)⟩⟩
 case round =>
  clear H'
  try clear p2
  obtain ⟨x3_1, x4_1, x12_1, rfl, HA, HK1, HO_3, HO_4, HB⟩ := hrel
  cases gk with
  | zero => exact absurd HA.out (by simp [spec_l8Cells.l0])
  | succ k1 =>
   have H := HA.out
   clear HA
   simp only [spec_l8Cells.l0] at H
   by_cases c6 : x12_1 < (l0.length : Int)
   ·rw [if_pos c6] at H
    have c6b0 : decide (x12_1 < (l0.length : Int)) = true := decide_eq_true c6
    clear c6
    by_cases c7 : 0 ≤ x12_1
    ·rw [if_pos c7] at H
     have c7b0 : decide (0 ≤ x12_1) = true := decide_eq_true c7
     clear c7
     by_cases c8 : x12_1 < (l0.length : Int)
     ·rw [if_pos c8] at H
      have c8b0 : decide (x12_1 < (l0.length : Int)) = true := decide_eq_true c8
      clear c8
      by_cases c9 : ((rd_T63 l0 x12_1).f0) = 43
      ·rw [if_pos c9] at H
       have c9b0 : (((rd_T63 l0 x12_1).f0) == 43) = true := beq_iff_eq.mpr c9
       have c9b1 : (((rd_T63 l0 x12_1).f0) != 43) = false := bne_eq_false_iff_eq.mpr c9
       clear c9
       replace H := Option.bind_eq_some_iff.mp H
       obtain ⟨t332, A100, H⟩ := H
       replace H : (if x4_1.length < 17592186044416 then (if x3_1.length < 17592186044416 then (spec_l8Cells.l0 k1 (x3_1 ++ [t332]) (x4_1 ++ [t332]) l0 (l0.length : Int) (wrap64 (x12_1 + 1))) else (none)) else (none)) = some r := H
       have A10 := Az.mk A100
       clear A100
       by_cases c11 : x4_1.length < 17592186044416
       ·rw [if_pos c11] at H
        have LMc11 := Az.mk c11
        clear c11
        obtain ⟨y333, hy333⟩ : ∃ y_ : List Int, y_ = (x4_1 ++ [t332]) := ⟨_, rfl⟩
        replace H : (if x3_1.length < 17592186044416 then (spec_l8Cells.l0 k1 (x3_1 ++ [t332]) y333 l0 (l0.length : Int) (wrap64 (x12_1 + 1))) else (none)) = some r := by first | (rw [hy333]; with_reducible exact H) | (have H2_ := (Option.bind_some _ _).symm.trans H; rw [hy333]; with_reducible exact H2_) | (have H2_ := (Option.bind_some _ _).symm.trans H; with_reducible exact H2_) | with_reducible exact H | (rw [hy333]; exact H) | exact H
        have Ny333 := Az.mk hy333
        clear hy333
        by_cases c12 : x3_1.length < 17592186044416
        ·rw [if_pos c12] at H
         have LMc12 := Az.mk c12
         clear c12
         obtain ⟨y336, hy336⟩ : ∃ y_ : List Int, y_ = (x3_1 ++ [t332]) := ⟨_, rfl⟩
         replace H : (spec_l8Cells.l0 k1 y336 y333 l0 (l0.length : Int) (wrap64 (x12_1 + 1))) = some r := by first | (rw [hy336]; with_reducible exact H) | (have H2_ := (Option.bind_some _ _).symm.trans H; rw [hy336]; with_reducible exact H2_) | (have H2_ := (Option.bind_some _ _).symm.trans H; with_reducible exact H2_) | with_reducible exact H | (rw [hy336]; exact H) | exact H
         have Ny336 := Az.mk hy336
         clear hy336
         have H' := Az.mk H
         clear H
         have p330 : 0 ≤ (x12_1 : Int) := of_decide_eq_true (by first|(with_reducible assumption)|assumption)
         have q330 : x12_1 < (l0.length : Int) := of_decide_eq_true (by first|(with_reducible assumption)|assumption)
         obtain ⟨ad330, e330, hx330_0, hx330_1⟩ := at_T63 HR0.out x12_1 p330 q330
         cases e330
         replace hx330_0 := (HB.out.cell (World.block_lt_of_cell? w _ hx330_0)).trans hx330_0
         replace hx330_1 := (HB.out.cell (World.block_lt_of_cell? w _ hx330_1)).trans hx330_1
         replace p330 := eq_true p330
         replace q330 := eq_true q330
         go_wp2_with (first | ((with_reducible refine gate_dst (N := 6) rfl ?_); refine box_event ?hg (N := 6) ?hd (cs := #[.int .u8 0, .int .i64 0]) (t := 63) ?hr ?_; (case hd => rfl); (case hg => rfl); (case hr => first | (go_simp; done) | (go_simp; rfl)); intro gb331 hg w13 hbox hb; have n0_ := Az.mk (Kd.Rb (by (with_reducible repeat first|apply Kd.Ra|apply Kd.Rn|apply Kd.Rw); exact HO_3.out) hb); have n1_ := Az.mk (Kd.Rb (by (with_reducible repeat first|apply Kd.Ra|apply Kd.Rn|apply Kd.Rw); exact HO_4.out) hb); have n2_ := Az.mk (bS (by repeat first|exact HB.out|apply bA|apply bN|apply bD) hb); have n3_ := Az.mk (hbox); have n4_ := Az.mk ((by rw [hg]; exact (bZ (by repeat first|exact HB.out|apply bA|apply bN|apply bD)) : w.heap.size ≤ gb331)); have n5_ := Az.mk ((by rw [hg]; exact (bZ (by repeat first|exact HB.out|apply bA|apply bN|apply bD)) : w.heap.size ≤ gb331)); clear HO_3; clear HO_4; clear HB; have HO_3 := n0_; have HO_4 := n1_; have HB := n2_; have BK331 := n3_; have GW331 := n4_; have GE331 := n5_; clear n0_ n1_ n2_ n3_ n4_ n5_; clear hb hbox hg; have hcz14_0 : w13.cell? ⟨gb331, 0, none⟩ = some (.int .u8 0) := (blk_cell BK331.out 0).trans rfl; have hcz14_1 : w13.cell? ⟨gb331, 1, none⟩ = some (.int .i64 0) := (blk_cell BK331.out 1).trans rfl; have hfz14_0 := blk_frozen BK331.out 0; have hfz14_1 := blk_frozen BK331.out 1; obtain ⟨Ao15, co15, eo15⟩ := Kd.R_slice HO_4.out; subst eo15) | ((with_reducible refine gate_callee (f := 81) rfl ?_); refine goesL_ (some 21) rfl rfl Tryz.func81 (by kernel_rfl) rfl #[.slice Ao15 x4_1.length co15] rfl (by (try simp only [List.map_toArray, List.map_cons, List.map_nil]); first | done | rfl | (simp only [List.length_drop, List.length_take]; rfl)) ?_; (with_reducible refine (spec_l8Free.calls k1 _ _ x4_1 t332 _ ?side1 ?side2 A10.out).mono ?_); (case side1 => refine (Kd.R_reads' (e := 3) (base := w.heap.size) (ok := fun k_ => some k_ ≠ (u3 : Value).ownBlock) (n := x4_1.length) (c := co15) ?_).2.2; exact (by (with_reducible repeat first|apply Kd.Ra|apply Kd.Rn|apply Kd.Rw); exact (Kd.R_mono (Kd.R_far (p := ⟨gb331, 1, none⟩) (Kd.R_far (p := ⟨gb331, 0, none⟩) (Kd.R_types HO_4.out BK331.out (by decide)) (fun _ hk => hk.2) (.int .u8 ((rd_T63 l0 x12_1).f0))) (fun _ hk => hk.2) (.int .i64 ((rd_T63 l0 x12_1).f1))) (fun _ h_ => h_.1)))); (case side2 => exact (Kd.R_reads' HO_4.out).2.1); rintro e w' ⟨rfl, ⟨nd, rfl⟩⟩; refine ⟨_, rfl, ?_⟩) | ((with_reducible refine gate_builtin (b := .append) (xs := #[.tmp 22, .tmp 24]) rfl ?_); at_builtin; refine Kd.R_append (Kd.int .i64) (w0 := w) w.heap.size rfl (.tmp 22) (.tmp 24) 33 3 (.int .i64 0) 8 rfl Tryz.underlying33 info3 rfl (by decide) (by omega) (.slice Ao15 x4_1.length co15) x4_1 t332 [.int .i64 t332] (fun k_ => some k_ ≠ (u3 : Value).ownBlock) (fun _ => False) rfl (by first | (go_simp; done) | (go_simp; rfl)) ?aP (fun _ hk => hk.elim) ?aF ?aO ?aB ?aS ?aL ?_; (case aP => exact rfl); (case aB => exact (by repeat (first | (with_reducible first|exact HB.out|apply bA|apply bN|apply bD | refine below_set ?_ GE331.out) | exact HB.out))); (case aF => exact (fun k_ hk => Kd.fresh' (Kd.R_lt (by (with_reducible repeat first|apply Kd.Ra|apply Kd.Rn|apply Kd.Rw); exact (Kd.R_mono (Kd.R_far (p := ⟨gb331, 1, none⟩) (Kd.R_far (p := ⟨gb331, 0, none⟩) (Kd.R_types HO_3.out BK331.out (by decide)) (fun _ hk => hk.2) (.int .u8 ((rd_T63 l0 x12_1).f0))) (fun _ hk => hk.2) (.int .i64 ((rd_T63 l0 x12_1).f1))) (fun _ h_ => h_.1)))) k_ hk)); (case aO => exact (by (with_reducible repeat first|apply Kd.Ra|apply Kd.Rn|apply Kd.Rw); exact Kd.R_mono (Kd.R_far (p := ⟨gb331, 1, none⟩) (Kd.R_far (p := ⟨gb331, 0, none⟩) (Kd.R_types HO_4.out BK331.out (by decide)) (fun _ hk => hk.2) (.int .u8 ((rd_T63 l0 x12_1).f0))) (fun _ hk => hk.2) (.int .i64 ((rd_T63 l0 x12_1).f1))) (fun _ hk => hk.1))); (case aS => exact (bZ (by repeat (first | (with_reducible first|exact HB.out|apply bA|apply bN|apply bD | refine below_set ?_ GE331.out) | exact HB.out)))); (case aL => have := LMc11.out; omega); intro v334 w16 ho hb hg hat; rw [← Ny333.out] at ho; have n0_ := Az.mk (Kd.R_after (ok := (fun _ => True)) (by (with_reducible repeat first|apply Kd.Ra|apply Kd.Rn|apply Kd.Rw); exact Kd.R_mono (Kd.R_far (p := ⟨gb331, 1, none⟩) (Kd.R_far (p := ⟨gb331, 0, none⟩) (Kd.R_types HO_3.out BK331.out (by decide)) (fun _ hk => hk.2) (.int .u8 ((rd_T63 l0 x12_1).f0))) (fun _ hk => hk.2) (.int .i64 ((rd_T63 l0 x12_1).f1))) (fun _ hk => ⟨trivial, hk.1⟩)) hg hat); have n1_ := Az.mk (blk_grown (g := gb331) (o := .cells #[.int .u8 ((rd_T63 l0 x12_1).f0), .int .i64 ((rd_T63 l0 x12_1).f1)] 63 (0, 0)) (by (with_reducible repeat first|refine blN ?_ _|refine bl1 ?_|refine blA ?_ _); refine blk_put (cs := #[.int .u8 ((rd_T63 l0 x12_1).f0), .int .i64 0]) ?_ 1 _ rfl; (with_reducible repeat first|refine blN ?_ _|refine bl1 ?_|refine blA ?_ _); refine blk_put (cs := #[.int .u8 0, .int .i64 0]) ?_ 0 _ rfl; (with_reducible repeat first|refine blN ?_ _|refine bl1 ?_|refine blA ?_ _); exact BK331.out) hg (Kd.R_ne HO_4.out BK331.out (by decide))); have n2_ := Az.mk (hb); have n3_ := Az.mk (ho); clear HO_3; clear BK331; clear HB; clear HO_4; have HO_3 := n0_; have BK331 := n1_; have HB := n2_; have HO335 := n3_; clear n0_ n1_ n2_ n3_; clear ho hb hg hat) | ((with_reducible refine gate_builtin (b := .append) (xs := #[.tmp 26, .tmp 28]) rfl ?_); at_builtin; refine Kd.R_append (Kd.int .i64) (w0 := w) w.heap.size rfl (.tmp 26) (.tmp 28) 33 3 (.int .i64 0) 8 rfl Tryz.underlying33 info3 rfl (by decide) (by omega) u3 x3_1 t332 [.int .i64 t332] (fun k_ => some k_ ≠ (v334 : Value).ownBlock) (fun _ => False) rfl rfl ?aP (fun _ hk => hk.elim) ?aF ?aO ?aB ?aS ?aL ?_; (case aP => exact rfl); (case aB => exact (by repeat (first | (with_reducible first|exact HB.out|apply bA|apply bN|apply bD | refine below_set ?_ GE331.out) | exact HB.out))); (case aF => exact (fun k_ hk => Kd.fresh' (Kd.R_lt (by (with_reducible repeat first|apply Kd.Ra|apply Kd.Rn|apply Kd.Rw); exact HO335.out)) k_ hk)); (case aO => exact (by (with_reducible repeat first|apply Kd.Ra|apply Kd.Rn|apply Kd.Rw); exact Kd.R_mono HO_3.out (fun _ hk => hk.2))); (case aS => exact (bZ (by repeat (first | (with_reducible first|exact HB.out|apply bA|apply bN|apply bD | refine below_set ?_ GE331.out) | exact HB.out)))); (case aL => have := LMc12.out; omega); intro v337 w17 ho hb hg hat; rw [← Ny336.out] at ho; have n0_ := Az.mk (blk_grown (g := gb331) (o := .cells #[.int .u8 ((rd_T63 l0 x12_1).f0), .int .i64 ((rd_T63 l0 x12_1).f1)] 63 (0, 0)) (by (with_reducible repeat first|refine blN ?_ _|refine bl1 ?_|refine blA ?_ _); exact BK331.out) hg (Kd.R_ne HO_3.out BK331.out (by decide))); have n1_ := Az.mk (Kd.R_after (ok := (fun _ => True)) (by (with_reducible repeat first|apply Kd.Ra|apply Kd.Rn|apply Kd.Rw); exact Kd.R_mono HO335.out (fun _ hk => ⟨trivial, hk⟩)) hg hat); have n2_ := Az.mk (hb); have n3_ := Az.mk (ho); clear BK331; clear HO335; clear HB; clear HO_3; have BK331 := n0_; have HO335 := n1_; have HB := n2_; have HO338 := n3_; clear n0_ n1_ n2_ n3_; clear ho hb hg hat))
         go_roundg k1
         case measure => have := HK1.out; omega
         case rel => exact ⟨(y336), (y333), (wrap64 (x12_1 + 1)), (by first | rfl | (simp; done) | (simp [*]; done)), H', ⟨by have := HK1.out; omega⟩, ⟨by (with_reducible repeat first|apply Kd.Ra|apply Kd.Rn|apply Kd.Rw); exact HO338.out⟩, ⟨by (with_reducible repeat first|apply Kd.Ra|apply Kd.Rn|apply Kd.Rw); exact Kd.R_mono HO335.out (fun _ hk => hk.2)⟩, ⟨by repeat (first | (with_reducible first|exact HB.out|apply bA|apply bN|apply bD | refine below_set ?_ GE331.out) | exact HB.out)⟩⟩
        ·rw [if_neg c12] at H
         exact absurd H (by simp)
       ·rw [if_neg c11] at H
        exact absurd H (by simp)
      ·rw [if_neg c9] at H
       have c9b0 : (((rd_T63 l0 x12_1).f0) == 43) = false := beq_eq_false_iff_ne.mpr c9
       have c9b1 : (((rd_T63 l0 x12_1).f0) != 43) = true := bne_iff_ne.mpr c9
       by_cases c18 : ((rd_T63 l0 x12_1).f0) = 45
       ·rw [if_pos c18] at H
        have c18b0 : (((rd_T63 l0 x12_1).f0) == 45) = true := beq_iff_eq.mpr c18
        have c18b1 : (((rd_T63 l0 x12_1).f0) != 45) = false := bne_eq_false_iff_eq.mpr c18
        clear c18
        obtain ⟨ji19, hji19⟩ : ∃ j_ : Int, (wrap64 (((rd_T63 l0 x12_1).f1) - 1)) = j_ := ⟨_, rfl⟩
        replace H : (if 0 ≤ (ji19) then (if (ji19) < (x3_1.length : Int) then ((spec_l7Without.f k1 x4_1 (rd x3_1 (ji19))).bind fun t340 => (spec_l8Cells.l0 k1 x3_1 t340 l0 (l0.length : Int) (wrap64 (x12_1 + 1)))) else (none)) else (none)) = some r := by first | (rw [hji19] at H; exact H) | (simp only [hji19] at H ⊢; exact H)
        have hji19w : (IntKind.i64.wrap (((rd_T63 l0 x12_1).f1) - 1)) = ji19 := (i64_w _).trans hji19
        by_cases c20 : 0 ≤ (ji19)
        ·rw [if_pos c20] at H
         have c20b0 : decide (0 ≤ (ji19)) = true := decide_eq_true c20
         clear c20
         by_cases c21 : (ji19) < (x3_1.length : Int)
         ·rw [if_pos c21] at H
          have c21b0 : decide ((ji19) < (x3_1.length : Int)) = true := decide_eq_true c21
          clear c21
          replace H := Option.bind_eq_some_iff.mp H
          obtain ⟨t340, A220, H⟩ := H
          replace H : (spec_l8Cells.l0 k1 x3_1 t340 l0 (l0.length : Int) (wrap64 (x12_1 + 1))) = some r := H
          have A22 := Az.mk A220
          clear A220
          have H' := Az.mk H
          clear H
          have p330 : 0 ≤ (x12_1 : Int) := of_decide_eq_true (by first|(with_reducible assumption)|assumption)
          have q330 : x12_1 < (l0.length : Int) := of_decide_eq_true (by first|(with_reducible assumption)|assumption)
          obtain ⟨ad330, e330, hx330_0, hx330_1⟩ := at_T63 HR0.out x12_1 p330 q330
          cases e330
          replace hx330_0 := (HB.out.cell (World.block_lt_of_cell? w _ hx330_0)).trans hx330_0
          replace hx330_1 := (HB.out.cell (World.block_lt_of_cell? w _ hx330_1)).trans hx330_1
          replace p330 := eq_true p330
          replace q330 := eq_true q330
          go_wp2_with (first | ((with_reducible refine gate_dst (N := 6) rfl ?_); refine box_event ?hg (N := 6) ?hd (cs := #[.int .u8 0, .int .i64 0]) (t := 63) ?hr ?_; (case hd => rfl); (case hg => rfl); (case hr => first | (go_simp; done) | (go_simp; rfl)); intro gb331 hg w23 hbox hb; have n0_ := Az.mk (Kd.Rb (by (with_reducible repeat first|apply Kd.Ra|apply Kd.Rn|apply Kd.Rw); exact HO_3.out) hb); have n1_ := Az.mk (Kd.Rb (by (with_reducible repeat first|apply Kd.Ra|apply Kd.Rn|apply Kd.Rw); exact HO_4.out) hb); have n2_ := Az.mk (bS (by repeat first|exact HB.out|apply bA|apply bN|apply bD) hb); have n3_ := Az.mk (hbox); have n4_ := Az.mk ((by rw [hg]; exact (bZ (by repeat first|exact HB.out|apply bA|apply bN|apply bD)) : w.heap.size ≤ gb331)); have n5_ := Az.mk ((by rw [hg]; exact (bZ (by repeat first|exact HB.out|apply bA|apply bN|apply bD)) : w.heap.size ≤ gb331)); clear HO_3; clear HO_4; clear HB; have HO_3 := n0_; have HO_4 := n1_; have HB := n2_; have BK331 := n3_; have GW331 := n4_; have GE331 := n5_; clear n0_ n1_ n2_ n3_ n4_ n5_; clear hb hbox hg; have hcz24_0 : w23.cell? ⟨gb331, 0, none⟩ = some (.int .u8 0) := (blk_cell BK331.out 0).trans rfl; have hcz24_1 : w23.cell? ⟨gb331, 1, none⟩ = some (.int .i64 0) := (blk_cell BK331.out 1).trans rfl; have hfz24_0 := blk_frozen BK331.out 0; have hfz24_1 := blk_frozen BK331.out 1; obtain ⟨Ao25, co25, eo25⟩ := Kd.R_slice HO_3.out; subst eo25; have p339 : 0 ≤ ((ji19) : Int) := of_decide_eq_true (by first|(with_reducible assumption)|assumption); have q339 : (ji19) < (x3_1.length : Int) := of_decide_eq_true (by first|(with_reducible assumption)|assumption); obtain ⟨ad339, e339, hx339_0⟩ := Kd.at_int (Kd.R_reads' HO_3.out).2.2 (ji19) p339 q339; cases e339; have hn339_0 : ad339.block ≠ gb331 := Kd.own_blk (Kd.R_ne HO_3.out BK331.out (by decide)); have hn339_1 : ad339.block ≠ gb331 := Kd.own_blk (Kd.R_ne HO_3.out BK331.out (by decide)); replace hx339_0 := (cell_far (p := ⟨gb331, 0, none⟩) (by first | (rw [add_block]; exact hn339_0) | (show (Addr.add _ _).block ≠ _; rw [add_block]; exact hn339_0) | exact hn339_0) (.int .u8 ((rd_T63 l0 x12_1).f0))).trans hx339_0; replace hx339_0 := (cell_far (p := ⟨gb331, 1, none⟩) (by first | (rw [add_block]; exact hn339_1) | (show (Addr.add _ _).block ≠ _; rw [add_block]; exact hn339_1) | exact hn339_1) (.int .i64 ((rd_T63 l0 x12_1).f1))).trans hx339_0; clear hn339_0; clear hn339_1; replace p339 := eq_true p339; replace q339 := eq_true q339; obtain ⟨Ao26, co26, eo26⟩ := Kd.R_slice HO_4.out; subst eo26) | ((with_reducible refine gate_callee (f := 80) rfl ?_); refine goesL_ (some 39) rfl rfl Tryz.func80 (by kernel_rfl) rfl #[.slice Ao26 x4_1.length co26, .int .i64 (rd x3_1 (ji19))] rfl (by (try simp only [List.map_toArray, List.map_cons, List.map_nil]); first | done | (simp only [hji19]; rfl) | rfl | (simp only [List.length_drop, List.length_take]; rfl)) ?_; (with_reducible refine (spec_l7Without.calls k1 _ _ x4_1 (rd x3_1 (ji19)) t340 _ ?side1 ?side2 A22.out).mono ?_); (case side1 => refine (Kd.R_reads' (e := 3) (base := w.heap.size) (ok := fun k_ => some k_ ≠ (.slice (some ad339) x3_1.length co25 : Value).ownBlock) (n := x4_1.length) (c := co26) ?_).2.2; exact (by (with_reducible repeat first|apply Kd.Ra|apply Kd.Rn|apply Kd.Rw); exact (Kd.R_mono (Kd.R_far (p := ⟨gb331, 1, none⟩) (Kd.R_far (p := ⟨gb331, 0, none⟩) (Kd.R_types HO_4.out BK331.out (by decide)) (fun _ hk => hk.2) (.int .u8 ((rd_T63 l0 x12_1).f0))) (fun _ hk => hk.2) (.int .i64 ((rd_T63 l0 x12_1).f1))) (fun _ h_ => h_.1)))); (case side2 => exact (Kd.R_reads' HO_4.out).2.1); rintro e w27 ⟨v341, rfl, ho0, hb⟩; refine ⟨_, rfl, ?_⟩; have n0_ := Az.mk (Kd.R_elder' (by (with_reducible repeat first|apply Kd.Ra|apply Kd.Rn|apply Kd.Rw); exact (Kd.R_mono (Kd.R_far (p := ⟨gb331, 1, none⟩) (Kd.R_far (p := ⟨gb331, 0, none⟩) (Kd.R_types HO_3.out BK331.out (by decide)) (fun _ hk => hk.2) (.int .u8 ((rd_T63 l0 x12_1).f0))) (fun _ hk => hk.2) (.int .i64 ((rd_T63 l0 x12_1).f1))) (fun _ h_ => h_.1))) (Kd.R_base ho0) hb); have n1_ := Az.mk (Kd.R_elder' (by (with_reducible repeat first|apply Kd.Ra|apply Kd.Rn|apply Kd.Rw); exact (Kd.R_mono (Kd.R_far (p := ⟨gb331, 1, none⟩) (Kd.R_far (p := ⟨gb331, 0, none⟩) (Kd.R_types HO_4.out BK331.out (by decide)) (fun _ hk => hk.2) (.int .u8 ((rd_T63 l0 x12_1).f0))) (fun _ hk => hk.2) (.int .i64 ((rd_T63 l0 x12_1).f1))) (fun _ h_ => h_.1))) (Kd.R_base ho0) hb); have n2_ := Az.mk (Kd.R_lower (Kd.R_new' (Kd.R_new' ho0 (Kd.R_lt (by (with_reducible repeat first|apply Kd.Ra|apply Kd.Rn|apply Kd.Rw); exact (Kd.R_mono (Kd.R_far (p := ⟨gb331, 1, none⟩) (Kd.R_far (p := ⟨gb331, 0, none⟩) (Kd.R_types HO_3.out BK331.out (by decide)) (fun _ hk => hk.2) (.int .u8 ((rd_T63 l0 x12_1).f0))) (fun _ hk => hk.2) (.int .i64 ((rd_T63 l0 x12_1).f1))) (fun _ h_ => h_.1))))) (Kd.R_lt (by (with_reducible repeat first|apply Kd.Ra|apply Kd.Rn|apply Kd.Rw); exact (Kd.R_mono (Kd.R_far (p := ⟨gb331, 1, none⟩) (Kd.R_far (p := ⟨gb331, 0, none⟩) (Kd.R_types HO_4.out BK331.out (by decide)) (fun _ hk => hk.2) (.int .u8 ((rd_T63 l0 x12_1).f0))) (fun _ hk => hk.2) (.int .i64 ((rd_T63 l0 x12_1).f1))) (fun _ h_ => h_.1))))) (bZ (by repeat (first | (with_reducible first|exact HB.out|apply bA|apply bN|apply bD | refine below_set ?_ GE331.out) | exact HB.out)))); have n3_ := Az.mk (blk_below (g := gb331) (o := .cells #[.int .u8 ((rd_T63 l0 x12_1).f0), .int .i64 ((rd_T63 l0 x12_1).f1)] 63 (0, 0)) (by (with_reducible repeat first|refine blN ?_ _|refine bl1 ?_|refine blA ?_ _); refine blk_put (cs := #[.int .u8 ((rd_T63 l0 x12_1).f0), .int .i64 0]) ?_ 1 _ rfl; (with_reducible repeat first|refine blN ?_ _|refine bl1 ?_|refine blA ?_ _); refine blk_put (cs := #[.int .u8 0, .int .i64 0]) ?_ 0 _ rfl; (with_reducible repeat first|refine blN ?_ _|refine bl1 ?_|refine blA ?_ _); exact BK331.out) hb); have n4_ := Az.mk (bS (by repeat (first | (with_reducible first|exact HB.out|apply bA|apply bN|apply bD | refine below_set ?_ GE331.out) | exact HB.out)) hb); clear HO_3; clear HO_4; clear BK331; clear HB; have HO_3 := n0_; have HO_4 := n1_; have HO342 := n2_; have BK331 := n3_; have HB := n4_; clear n0_ n1_ n2_ n3_ n4_; (try clear hb); (try clear hb2); (try clear hk); (try clear hi); (try clear ho0)))
          go_roundg k1
          case measure => have := HK1.out; omega
          case rel => exact ⟨(x3_1), (t340), (wrap64 (x12_1 + 1)), (by first | rfl | (simp; done) | (simp [*]; done)), H', ⟨by have := HK1.out; omega⟩, ⟨by (with_reducible repeat first|apply Kd.Ra|apply Kd.Rn|apply Kd.Rw); exact Kd.R_mono HO_3.out (fun _ hk => hk.2)⟩, ⟨by (with_reducible repeat first|apply Kd.Ra|apply Kd.Rn|apply Kd.Rw); exact Kd.R_mono HO342.out (fun _ hk => hk.1.2)⟩, ⟨by repeat (first | (with_reducible first|exact HB.out|apply bA|apply bN|apply bD | refine below_set ?_ GE331.out) | exact HB.out)⟩⟩
         ·rw [if_neg c21] at H
          exact absurd H (by simp)
        ·rw [if_neg c20] at H
         exact absurd H (by simp)
       ·rw [if_neg c18] at H
        have c18b0 : (((rd_T63 l0 x12_1).f0) == 45) = false := beq_eq_false_iff_ne.mpr c18
        have c18b1 : (((rd_T63 l0 x12_1).f0) != 45) = true := bne_iff_ne.mpr c18
        have H' := Az.mk H
        clear H
        have p330 : 0 ≤ (x12_1 : Int) := of_decide_eq_true (by first|(with_reducible assumption)|assumption)
        have q330 : x12_1 < (l0.length : Int) := of_decide_eq_true (by first|(with_reducible assumption)|assumption)
        obtain ⟨ad330, e330, hx330_0, hx330_1⟩ := at_T63 HR0.out x12_1 p330 q330
        cases e330
        replace hx330_0 := (HB.out.cell (World.block_lt_of_cell? w _ hx330_0)).trans hx330_0
        replace hx330_1 := (HB.out.cell (World.block_lt_of_cell? w _ hx330_1)).trans hx330_1
        replace p330 := eq_true p330
        replace q330 := eq_true q330
        go_wp2_with (first | ((with_reducible refine gate_dst (N := 6) rfl ?_); refine box_event ?hg (N := 6) ?hd (cs := #[.int .u8 0, .int .i64 0]) (t := 63) ?hr ?_; (case hd => rfl); (case hg => rfl); (case hr => first | (go_simp; done) | (go_simp; rfl)); intro gb331 hg w28 hbox hb; have n0_ := Az.mk (Kd.Rb (by (with_reducible repeat first|apply Kd.Ra|apply Kd.Rn|apply Kd.Rw); exact HO_3.out) hb); have n1_ := Az.mk (Kd.Rb (by (with_reducible repeat first|apply Kd.Ra|apply Kd.Rn|apply Kd.Rw); exact HO_4.out) hb); have n2_ := Az.mk (bS (by repeat first|exact HB.out|apply bA|apply bN|apply bD) hb); have n3_ := Az.mk (hbox); have n4_ := Az.mk ((by rw [hg]; exact (bZ (by repeat first|exact HB.out|apply bA|apply bN|apply bD)) : w.heap.size ≤ gb331)); have n5_ := Az.mk ((by rw [hg]; exact (bZ (by repeat first|exact HB.out|apply bA|apply bN|apply bD)) : w.heap.size ≤ gb331)); clear HO_3; clear HO_4; clear HB; have HO_3 := n0_; have HO_4 := n1_; have HB := n2_; have BK331 := n3_; have GW331 := n4_; have GE331 := n5_; clear n0_ n1_ n2_ n3_ n4_ n5_; clear hb hbox hg; have hcz29_0 : w28.cell? ⟨gb331, 0, none⟩ = some (.int .u8 0) := (blk_cell BK331.out 0).trans rfl; have hcz29_1 : w28.cell? ⟨gb331, 1, none⟩ = some (.int .i64 0) := (blk_cell BK331.out 1).trans rfl; have hfz29_0 := blk_frozen BK331.out 0; have hfz29_1 := blk_frozen BK331.out 1))
        go_roundg k1
        case measure => have := HK1.out; omega
        case rel => exact ⟨(x3_1), (x4_1), (wrap64 (x12_1 + 1)), (by first | rfl | (simp; done) | (simp [*]; done)), H', ⟨by have := HK1.out; omega⟩, ⟨by (with_reducible repeat first|apply Kd.Ra|apply Kd.Rn|apply Kd.Rw); exact Kd.R_mono (Kd.R_far (p := ⟨gb331, 1, none⟩) (Kd.R_far (p := ⟨gb331, 0, none⟩) (Kd.R_types HO_3.out BK331.out (by decide)) (fun _ hk => hk.2) (.int .u8 ((rd_T63 l0 x12_1).f0))) (fun _ hk => hk.2) (.int .i64 ((rd_T63 l0 x12_1).f1))) (fun _ hk => hk.1)⟩, ⟨by (with_reducible repeat first|apply Kd.Ra|apply Kd.Rn|apply Kd.Rw); exact Kd.R_mono (Kd.R_far (p := ⟨gb331, 1, none⟩) (Kd.R_far (p := ⟨gb331, 0, none⟩) (Kd.R_types HO_4.out BK331.out (by decide)) (fun _ hk => hk.2) (.int .u8 ((rd_T63 l0 x12_1).f0))) (fun _ hk => hk.2) (.int .i64 ((rd_T63 l0 x12_1).f1))) (fun _ hk => hk.1)⟩, ⟨by repeat (first | (with_reducible first|exact HB.out|apply bA|apply bN|apply bD | refine below_set ?_ GE331.out) | exact HB.out)⟩⟩
     ·rw [if_neg c8] at H
      exact absurd H (by simp)
    ·rw [if_neg c7] at H
     exact absurd H (by simp)
   ·rw [if_neg c6] at H
    have c6b0 : decide (x12_1 < (l0.length : Int)) = false := decide_eq_false c6
    clear c6
    obtain rfl := Option.some.inj H
    go_wp2
    go_ret
    exact ⟨_, by first | rfl | (simp [errW_none, errW_some] <;> rfl) | (simp [*, errW_none, errW_some] <;> rfl), by (with_reducible repeat first|apply Kd.Ra|apply Kd.Rn|apply Kd.Rw); exact Kd.R_mono HO_3.out (fun _ hk => trivial), by repeat (first | (with_reducible first|exact HB.out|apply bA|apply bN|apply bD) | exact HB.out)⟩
def spec_l8Count.l0 : Nat → Int → List Int → Int → Int → Option (Int)
 | 0, _, _, _, _ => none
 | k + 1, x3, x6, x7, x8 => if x8 < x7 then (if 0 ≤ x8 then (if x8 < (x6.length : Int) then (spec_l8Count.l0 k (mx x3 (wrap64 ((rd x6 x8) + 1))) x6 x7 (wrap64 (x8 + 1))) else (none)) else (none)) else (some x3)
def spec_l8Count.f (k : Nat) (l0 : List Int) : Option (Int) := spec_l8Count.l0 k 0 l0 (l0.length : Int) 0
set_option maxHeartbeats 8000000 in
set_option maxRecDepth 100000 in
theorem spec_l8Count.calls (k : Nat) (A0 : Option Addr) (c0 : Nat) (l0 : List Int) (r : Int) (w : World) (hr0 : Kd.C (Kd.int .i64) w A0 l0.length l0) (hc0 : l0.length ≤ c0) (h : spec_l8Count.f k l0 = some r) :
  Calls Tryz.prog 63 #[.slice A0 l0.length c0] w fun e w' => e = .returned (.int .i64 r) ∧ Below w.heap.size w w' := by
 have HR0 := Az.mk hr0
 have HC0 := Az.mk hc0
 clear hr0 hc0
 have HB := Az.mk (Below.refl w.heap.size w)
 have H : (spec_l8Count.l0 k 0 l0 (l0.length : Int) 0) = some r := h
 clear h
 have H' := Az.mk H
 clear H
 go_enter Tryz.func63, Tryz.ntmps63
 go_wp2
 go_loopg [3, 8] k (fun kq v3 v8 w' => ∃ (x3_1 : Int) (x8_1 : Int), v3 = .int .i64 x3_1 ∧ v8 = .int .i64 x8_1 ∧ Az (spec_l8Count.l0 kq x3_1 l0 (l0.length : Int) x8_1 = some r) ∧ Az (kq ≤ k) ∧ Az (Below w.heap.size w w'))
 case atStart => exact ⟨(0), (0), (by first | rfl | (simp; done) | (simp [*]; done)), (by first | rfl | (simp; done) | (simp [*]; done)), H', ⟨Nat.le_refl _⟩, ⟨by repeat (first | (with_reducible first|exact HB.out|apply bA|apply bN|apply bD) | exact HB.out)⟩⟩
 case round =>
  clear H'
  obtain ⟨x3_1, x8_1, rfl, rfl, HA, HK1, HB⟩ := hrel
  cases gk with
  | zero => exact absurd HA.out (by simp [spec_l8Count.l0])
  | succ k1 =>
   have H := HA.out
   clear HA
   simp only [spec_l8Count.l0] at H
   by_cases c2 : x8_1 < (l0.length : Int)
   ·rw [if_pos c2] at H
    have c2b0 : decide (x8_1 < (l0.length : Int)) = true := decide_eq_true c2
    clear c2
    by_cases c3 : 0 ≤ x8_1
    ·rw [if_pos c3] at H
     have c3b0 : decide (0 ≤ x8_1) = true := decide_eq_true c3
     clear c3
     by_cases c4 : x8_1 < (l0.length : Int)
     ·rw [if_pos c4] at H
      have c4b0 : decide (x8_1 < (l0.length : Int)) = true := decide_eq_true c4
      clear c4
      obtain ⟨ji5, hji5⟩ : ∃ j_ : Int, (mx x3_1 (wrap64 ((rd l0 x8_1) + 1))) = j_ := ⟨_, rfl⟩
      replace H : (spec_l8Count.l0 k1 ji5 l0 (l0.length : Int) (wrap64 (x8_1 + 1))) = some r := by first | (rw [hji5] at H; exact H) | (simp only [hji5] at H ⊢; exact H)
      have hji5_ : (if x3_1 < (wrap64 ((rd l0 x8_1) + 1)) then (wrap64 ((rd l0 x8_1) + 1)) else x3_1) = ji5 := hji5
      have H' := Az.mk H
      clear H
      have p361 : 0 ≤ (x8_1 : Int) := of_decide_eq_true (by first|(with_reducible assumption)|assumption)
      have q361 : x8_1 < (l0.length : Int) := of_decide_eq_true (by first|(with_reducible assumption)|assumption)
      obtain ⟨ad361, e361, hx361_0⟩ := Kd.at_int HR0.out x8_1 p361 q361
      cases e361
      replace hx361_0 := (HB.out.cell (World.block_lt_of_cell? w _ hx361_0)).trans hx361_0
      replace p361 := eq_true p361
      replace q361 := eq_true q361
      go_wp2
      go_roundg k1
      case measure => have := HK1.out; omega
      case rel => exact ⟨(ji5), (wrap64 (x8_1 + 1)), (by first | rfl | (simp; done) | (simp only [← hji5] <;> (first | rfl | simp)) | (simp [*]; done)), (by first | rfl | (simp; done) | (simp [*]; done)), H', ⟨by have := HK1.out; omega⟩, ⟨by repeat (first | (with_reducible first|exact HB.out|apply bA|apply bN|apply bD) | exact HB.out)⟩⟩
     ·rw [if_neg c4] at H
      exact absurd H (by simp)
    ·rw [if_neg c3] at H
     exact absurd H (by simp)
   ·rw [if_neg c2] at H
    have c2b0 : decide (x8_1 < (l0.length : Int)) = false := decide_eq_false c2
    clear c2
    obtain rfl := Option.some.inj H
    go_wp2
    go_ret
    exact ⟨by first | rfl | (simp [errW_none, errW_some] <;> rfl) | (simp [*, errW_none, errW_some] <;> rfl), by repeat (first | (with_reducible first|exact HB.out|apply bA|apply bN|apply bD) | exact HB.out)⟩
mutual
def spec_CellsText.l0 : Nat → List (S31) → List Int → ByteArray → Int → Int → Option (ByteArray × Bool)
 | 0, _, _, _, _, _ => none
 | k + 1, x6, x7, x8, x27, x28 => if x28 < x27 then (if x28 > 0 then (if x8.size + 1 ≤ 9223372036854775807 then (spec_CellsText.j1 k x6 x7 (x8 ++ (⟨#[59]⟩ : ByteArray)) x28 x27 x28) else (none)) else (spec_CellsText.j1 k x6 x7 x8 x28 x27 x28)) else (if x8.toList = ([] : List UInt8) then (some ((⟨#[45]⟩ : ByteArray), true)) else (some (x8, true)))
def spec_CellsText.j1 : Nat → List (S31) → List Int → ByteArray → Int → Int → Int → Option (ByteArray × Bool)
 | 0, _, _, _, _, _, _ => none
 | k + 1, x6, x7, x8, x9, x27, x28 => (spec_l7Alive.f k x6 x9).bind fun t556 => ((spec_l8Count.f k x7).bind fun t559 => (spec_CellsText.l1 k x6 x7 x8 t556 x27 x28 t559 0))
def spec_CellsText.l1 : Nat → List (S31) → List Int → ByteArray → List Int → Int → Int → Int → Int → Option (ByteArray × Bool)
 | 0, _, _, _, _, _, _, _, _ => none
 | k + 1, x6, x7, x8, x10, x27, x28, x39, x40 => if x40 < x39 then (spec_CellsText.l2 k x6 x7 x8 x10 x40 (⟨#[46]⟩ : ByteArray) x27 x28 x39 x40 x10 (x10.length : Int) 0) else (spec_CellsText.l0 k x6 x7 x8 x27 (wrap64 (x28 + 1)))
def spec_CellsText.l2 : Nat → List (S31) → List Int → ByteArray → List Int → Int → ByteArray → Int → Int → Int → Int → List Int → Int → Int → Option (ByteArray × Bool)
 | 0, _, _, _, _, _, _, _, _, _, _, _, _, _ => none
 | k + 1, x6, x7, x8, x10, x11, x12, x27, x28, x39, x40, x43, x44, x45 => if x45 < x44 then (if 0 ≤ x45 then (if x45 < (x43.length : Int) then (if 0 ≤ (wrap64 ((rd x43 x45) - 1)) then (if (wrap64 ((rd x43 x45) - 1)) < (x7.length : Int) then (if (rd x7 (wrap64 ((rd x43 x45) - 1))) = x11 then ((spec_l13Dec.f k (rd x43 x45)).bind fun t562 => (spec_CellsText.l2 k x6 x7 x8 x10 x11 t562 x27 x28 x39 x40 x43 x44 (wrap64 (x45 + 1)))) else (spec_CellsText.l2 k x6 x7 x8 x10 x11 x12 x27 x28 x39 x40 x43 x44 (wrap64 (x45 + 1)))) else (none)) else (none)) else (none)) else (none)) else (if x11 > 0 then (if x8.size + 1 ≤ 9223372036854775807 then (if (x8 ++ (⟨#[32]⟩ : ByteArray)).size + x12.size ≤ 9223372036854775807 then (spec_CellsText.l1 k x6 x7 ((x8 ++ (⟨#[32]⟩ : ByteArray)) ++ x12) x10 x27 x28 x39 (wrap64 (x40 + 1))) else (none)) else (none)) else (if x8.size + x12.size ≤ 9223372036854775807 then (spec_CellsText.l1 k x6 x7 (x8 ++ x12) x10 x27 x28 x39 (wrap64 (x40 + 1))) else (none)))
end
def spec_CellsText.f (k : Nat) (a0 : ByteArray) : Option (ByteArray × Bool) := (spec_l7Read.f k a0).bind fun bt546 => (if bt546.2 = true then ((spec_l7Lives.f k bt546.1).bind fun t550 => ((spec_l8Cells.f k bt546.1).bind fun t553 => (spec_CellsText.l0 k t550 t553 (⟨#[]⟩ : ByteArray) (bt546.1.length : Int) 0))) else (some ((⟨#[]⟩ : ByteArray), false)))
set_option maxHeartbeats 8000000 in
set_option maxRecDepth 100000 in
theorem spec_CellsText.calls (k : Nat) (a0 : ByteArray) (r1 : ByteArray) (r2 : Bool) (w : World) (h : spec_CellsText.f k a0 = some (r1, r2)) :
  Calls Tryz.prog 32 #[.string a0] w fun e w' => e = .returned (.tuple #[.string r1, .bool r2]) ∧ Below w.heap.size w w' := by
 have HB := Az.mk (Below.refl w.heap.size w)
 have H : ((spec_l7Read.f k a0).bind fun bt546 => (if bt546.2 = true then ((spec_l7Lives.f k bt546.1).bind fun t550 => ((spec_l8Cells.f k bt546.1).bind fun t553 => (spec_CellsText.l0 k t550 t553 (⟨#[]⟩ : ByteArray) (bt546.1.length : Int) 0))) else (some ((⟨#[]⟩ : ByteArray), false)))) = some (r1, r2) := h
 clear h
 replace H := Option.bind_eq_some_iff.mp H
 obtain ⟨⟨t546, t547⟩, A20, H⟩ := H
 replace H : (if t547 = true then ((spec_l7Lives.f k t546).bind fun t550 => ((spec_l8Cells.f k t546).bind fun t553 => (spec_CellsText.l0 k t550 t553 (⟨#[]⟩ : ByteArray) (t546.length : Int) 0))) else (some ((⟨#[]⟩ : ByteArray), false))) = some (r1, r2) := H
 have A2 := Az.mk A20
 clear A20
 by_cases c3 : t547 = true
 ·subst c3
  have H1 : ((spec_l7Lives.f k t546).bind fun t550 => ((spec_l8Cells.f k t546).bind fun t553 => (spec_CellsText.l0 k t550 t553 (⟨#[]⟩ : ByteArray) (t546.length : Int) 0))) = some (r1, r2) := by rw [if_pos rfl] at H; exact H
  clear H
  have H := H1
  clear H1
  replace H := Option.bind_eq_some_iff.mp H
  obtain ⟨t550, A40, H⟩ := H
  replace H : ((spec_l8Cells.f k t546).bind fun t553 => (spec_CellsText.l0 k t550 t553 (⟨#[]⟩ : ByteArray) (t546.length : Int) 0)) = some (r1, r2) := H
  have A4 := Az.mk A40
  clear A40
  replace H := Option.bind_eq_some_iff.mp H
  obtain ⟨t553, A50, H⟩ := H
  replace H : (spec_CellsText.l0 k t550 t553 (⟨#[]⟩ : ByteArray) (t546.length : Int) 0) = some (r1, r2) := H
  have A5 := Az.mk A50
  clear A50
  have H' := Az.mk H
  clear H
  go_enter Tryz.func32, Tryz.ntmps32
  go_wp2_with (first | ((with_reducible refine gate_callee (f := 54) rfl ?_); refine goesL_ (some 17) rfl rfl Tryz.func54 (by kernel_rfl) rfl #[.string a0] rfl (by (try simp only [List.map_toArray, List.map_cons, List.map_nil]); first | done | rfl | (simp only [List.length_drop, List.length_take]; rfl)) ?_; (with_reducible refine (spec_l7Read.calls k a0 t546 true _ A2.out).mono ?_); rintro e w6 ⟨v548, rfl, ho0, hb⟩; refine ⟨_, rfl, ?_⟩; have n0_ := Az.mk (Kd.R_lower ho0 (bZ (by repeat first|exact HB.out|apply bA|apply bN|apply bD))); have n1_ := Az.mk (bS (by repeat first|exact HB.out|apply bA|apply bN|apply bD) hb); clear HB; have HO549 := n0_; have HB := n1_; clear n0_ n1_; (try clear hb); (try clear hb2); (try clear hk); (try clear hi); (try clear ho0); obtain ⟨Ao7, co7, eo7⟩ := Kd.R_slice HO549.out; subst eo7) | ((with_reducible refine gate_callee (f := 55) rfl ?_); refine goesL_ (some 23) rfl rfl Tryz.func55 (by kernel_rfl) rfl #[.slice Ao7 t546.length co7] rfl (by (try simp only [List.map_toArray, List.map_cons, List.map_nil]); first | done | rfl | (simp only [List.length_drop, List.length_take]; rfl)) ?_; (with_reducible refine (spec_l7Lives.calls k _ _ t546 t550 _ ?side1 ?side2 A4.out).mono ?_); (case side1 => repeat (first | exact (Kd.R_reads' HO549.out).2.2 | (with_reducible refine Kd.C_alloc ?_ _) | (with_reducible refine Kd.C_drewN ?_ _) | (with_reducible refine Kd.C_drew ?_))); (case side2 => exact (Kd.R_reads' HO549.out).2.1); rintro e w8 ⟨v551, rfl, ho0, hb⟩; refine ⟨_, rfl, ?_⟩; have n0_ := Az.mk (Kd.Rb (by (with_reducible repeat first|apply Kd.Ra|apply Kd.Rn|apply Kd.Rw); exact HO549.out) hb); have n1_ := Az.mk (Kd.R_lower ho0 (bZ (by repeat first|exact HB.out|apply bA|apply bN|apply bD))); have n2_ := Az.mk (bS (by repeat first|exact HB.out|apply bA|apply bN|apply bD) hb); clear HO549; clear HB; have HO549 := n0_; have HO552 := n1_; have HB := n2_; clear n0_ n1_ n2_; (try clear hb); (try clear hb2); (try clear hk); (try clear hi); (try clear ho0)) | ((with_reducible refine gate_callee (f := 60) rfl ?_); refine goesL_ (some 25) rfl rfl Tryz.func60 (by kernel_rfl) rfl #[.slice Ao7 t546.length co7] rfl (by (try simp only [List.map_toArray, List.map_cons, List.map_nil]); first | done | rfl | (simp only [List.length_drop, List.length_take]; rfl)) ?_; (with_reducible refine (spec_l8Cells.calls k _ _ t546 t553 _ ?side1 ?side2 A5.out).mono ?_); (case side1 => repeat (first | exact (Kd.R_reads' HO549.out).2.2 | (with_reducible refine Kd.C_alloc ?_ _) | (with_reducible refine Kd.C_drewN ?_ _) | (with_reducible refine Kd.C_drew ?_))); (case side2 => exact (Kd.R_reads' HO549.out).2.1); rintro e w9 ⟨v554, rfl, ho0, hb⟩; refine ⟨_, rfl, ?_⟩; have n0_ := Az.mk (Kd.Rb (by (with_reducible repeat first|apply Kd.Ra|apply Kd.Rn|apply Kd.Rw); exact HO549.out) hb); have n1_ := Az.mk (Kd.Rb (by (with_reducible repeat first|apply Kd.Ra|apply Kd.Rn|apply Kd.Rw); exact HO552.out) hb); have n2_ := Az.mk (Kd.R_lower ho0 (bZ (by repeat first|exact HB.out|apply bA|apply bN|apply bD))); have n3_ := Az.mk (bS (by repeat first|exact HB.out|apply bA|apply bN|apply bD) hb); clear HO549; clear HO552; clear HB; have HO549 := n0_; have HO552 := n1_; have HO555 := n2_; have HB := n3_; clear n0_ n1_ n2_ n3_; (try clear hb); (try clear hb2); (try clear hk); (try clear hi); (try clear ho0)))
  go_loopg [8, 28] k (fun kq v8 v28 w' => ∃ (x8_1 : ByteArray) (x28_1 : Int), v8 = .string x8_1 ∧ v28 = .int .i64 x28_1 ∧ Az (spec_CellsText.l0 kq t550 t553 x8_1 (t546.length : Int) x28_1 = some (r1, r2)) ∧ Az (kq ≤ k) ∧ Az (Kd.R k31 31 w' w.heap.size (fun _ => True) v551 t550) ∧ Az (Kd.R (Kd.int .i64) 3 w' w.heap.size (fun _ => True) v554 t553) ∧ Az (Below w.heap.size w w'))
  case atStart => exact ⟨((⟨#[]⟩ : ByteArray)), (0), (by first | rfl | (simp; done) | (simp [*]; done)), (by first | rfl | (simp; done) | (simp [*]; done)), H', ⟨Nat.le_refl _⟩, ⟨by (with_reducible repeat first|apply Kd.Ra|apply Kd.Rn|apply Kd.Rw); exact HO552.out⟩, ⟨by (with_reducible repeat first|apply Kd.Ra|apply Kd.Rn|apply Kd.Rw); exact HO555.out⟩, ⟨by repeat (first | (with_reducible first|exact HB.out|apply bA|apply bN|apply bD) | exact HB.out)⟩⟩
  case round =>
   clear H'
   try clear p2
   try clear c3
   try clear c5
   try clear c6
   obtain ⟨x8_1, x28_1, rfl, rfl, HA, HK1, HO_6, HO_7, HB⟩ := hrel
   cases gk with
   | zero => exact absurd HA.out (by simp [spec_CellsText.l0])
   | succ k1 =>
    have H := HA.out
    clear HA
    simp only [spec_CellsText.l0] at H
    by_cases c10 : x28_1 < (t546.length : Int)
    ·rw [if_pos c10] at H
     have c10b0 : decide (x28_1 < (t546.length : Int)) = true := decide_eq_true c10
     clear c10
     have HC11 := Az.mk H
     clear H
     go_upto_if 32 with (fail)
     go_cut [8] (fun v8 wc => ∃ (kq : Nat) (x8_10 : ByteArray), v8 = .string x8_10 ∧ Az (spec_CellsText.j1 kq t550 t553 x8_10 x28_1 (t546.length : Int) x28_1 = some (r1, r2)) ∧ Az (kq ≤ k1) ∧ Az (Kd.R k31 31 wc w.heap.size (fun _ => True) v551 t550) ∧ Az (Kd.R (Kd.int .i64) 3 wc w.heap.size (fun _ => True) v554 t553) ∧ Az (Below w.heap.size w wc))
     case first =>
      have H := HC11.out
      clear HC11
      by_cases c12 : x28_1 > 0
      ·rw [if_pos c12] at H
       have c12b0 : decide (0 < x28_1) = true := decide_eq_true c12
       clear c12
       (first | rw [c12b0] | (simp only [i64_w, i32_w]; rw [c12b0]) | skip)
       by_cases c13 : x8_1.size + 1 ≤ 9223372036854775807
       ·rw [if_pos c13] at H
        have c13b0 := eq_true c13
        have c13b1 : decide (x8_1.size + 1 ≤ 9223372036854775807) = true := decide_eq_true c13
        try have c13b2 : (9223372036854775807 < x8_1.size + 1) = False := eq_false (Nat.not_lt.2 c13)
        have H' := Az.mk H
        clear H
        go_wp2
        go_meet
        case rel => exact ⟨_, (x8_1 ++ (⟨#[59]⟩ : ByteArray)), (by first | rfl | (simp; done) | (simp [*]; done)), H', ⟨by have := HK1.out; first | omega | exact Nat.le_refl _⟩, ⟨by (with_reducible repeat first|apply Kd.Ra|apply Kd.Rn|apply Kd.Rw); exact HO_6.out⟩, ⟨by (with_reducible repeat first|apply Kd.Ra|apply Kd.Rn|apply Kd.Rw); exact HO_7.out⟩, ⟨by repeat (first | (with_reducible first|exact HB.out|apply bA|apply bN|apply bD) | exact HB.out)⟩⟩
       ·rw [if_neg c13] at H
        exact absurd H (by simp)
      ·rw [if_neg c12] at H
       have c12b0 : decide (0 < x28_1) = false := decide_eq_false c12
       clear c12
       (first | rw [c12b0] | (simp only [i64_w, i32_w]; rw [c12b0]) | skip)
       have H' := Az.mk H
       clear H
       go_wp2
       go_meet
       case rel => exact ⟨_, (x8_1), (by first | rfl | (simp; done) | (simp [*]; done)), H', ⟨by have := HK1.out; first | omega | exact Nat.le_refl _⟩, ⟨by (with_reducible repeat first|apply Kd.Ra|apply Kd.Rn|apply Kd.Rw); exact HO_6.out⟩, ⟨by (with_reducible repeat first|apply Kd.Ra|apply Kd.Rn|apply Kd.Rw); exact HO_7.out⟩, ⟨by repeat (first | (with_reducible first|exact HB.out|apply bA|apply bN|apply bD) | exact HB.out)⟩⟩
     case rest =>
      clear HC11
      try clear c1
      try clear p2
      try clear c3
      try clear c5
      try clear c6
      try clear c10
      try clear c10b0
      try clear c12
      try clear c12b0
      try clear c13
      try clear c13b0
      try clear c13b1
      try clear c13b2
      try clear p2
      obtain ⟨kq, x8_10, rfl, HA, HJ10, HO_6, HO_7, HB⟩ := hcut
      cases kq with
      | zero => exact absurd HA.out (by simp [spec_CellsText.j1])
      | succ kj10 =>
       have H := HA.out
       clear HA
       simp only [spec_CellsText.j1] at H
       replace H := Option.bind_eq_some_iff.mp H
       obtain ⟨t556, A140, H⟩ := H
       replace H : ((spec_l8Count.f kj10 t553).bind fun t559 => (spec_CellsText.l1 kj10 t550 t553 x8_10 t556 (t546.length : Int) x28_1 t559 0)) = some (r1, r2) := H
       have A14 := Az.mk A140
       clear A140
       replace H := Option.bind_eq_some_iff.mp H
       obtain ⟨t559, A150, H⟩ := H
       replace H : (spec_CellsText.l1 kj10 t550 t553 x8_10 t556 (t546.length : Int) x28_1 t559 0) = some (r1, r2) := H
       have A15 := Az.mk A150
       clear A150
       have H' := Az.mk H
       clear H
       obtain ⟨Ao16, co16, eo16⟩ := Kd.R_slice HO_6.out
       subst eo16
       go_wp2_with (first | ((with_reducible refine gate_callee (f := 66) rfl ?_); refine goesL_ (some 37) rfl rfl Tryz.func66 (by kernel_rfl) rfl #[.slice Ao16 t550.length co16, .int .i64 x28_1] rfl (by (try simp only [List.map_toArray, List.map_cons, List.map_nil]); first | done | rfl | (simp only [List.length_drop, List.length_take]; rfl)) ?_; (with_reducible refine (spec_l7Alive.calls kj10 _ _ t550 x28_1 t556 _ ?side1 ?side2 A14.out).mono ?_); (case side1 => repeat (first | exact (Kd.R_reads' HO_6.out).2.2 | (with_reducible refine Kd.C_alloc ?_ _) | (with_reducible refine Kd.C_drewN ?_ _) | (with_reducible refine Kd.C_drew ?_))); (case side2 => exact (Kd.R_reads' HO_6.out).2.1); rintro e w17 ⟨v557, rfl, ho0, hb⟩; refine ⟨_, rfl, ?_⟩; have n0_ := Az.mk (Kd.Rb (by (with_reducible repeat first|apply Kd.Ra|apply Kd.Rn|apply Kd.Rw); exact HO_6.out) hb); have n1_ := Az.mk (Kd.R_elder' (by (with_reducible repeat first|apply Kd.Ra|apply Kd.Rn|apply Kd.Rw); exact HO_7.out) (Kd.R_base ho0) hb); have n2_ := Az.mk (Kd.R_lower (Kd.R_new' ho0 (Kd.R_lt (by (with_reducible repeat first|apply Kd.Ra|apply Kd.Rn|apply Kd.Rw); exact HO_7.out))) (bZ (by repeat first|exact HB.out|apply bA|apply bN|apply bD))); have n3_ := Az.mk (bS (by repeat first|exact HB.out|apply bA|apply bN|apply bD) hb); clear HO_6; clear HO_7; clear HB; have HO_6 := n0_; have HO_7 := n1_; have HO558 := n2_; have HB := n3_; clear n0_ n1_ n2_ n3_; (try clear hb); (try clear hb2); (try clear hk); (try clear hi); (try clear ho0); obtain ⟨Ao18, co18, eo18⟩ := Kd.R_slice HO_7.out; subst eo18) | ((with_reducible refine gate_callee (f := 63) rfl ?_); refine goesL_ (some 39) rfl rfl Tryz.func63 (by kernel_rfl) rfl #[.slice Ao18 t553.length co18] rfl (by (try simp only [List.map_toArray, List.map_cons, List.map_nil]); first | done | rfl | (simp only [List.length_drop, List.length_take]; rfl)) ?_; (with_reducible refine (spec_l8Count.calls kj10 _ _ t553 t559 _ ?side1 ?side2 A15.out).mono ?_); (case side1 => repeat (first | exact (Kd.R_reads' HO_7.out).2.2 | (with_reducible refine Kd.C_alloc ?_ _) | (with_reducible refine Kd.C_drewN ?_ _) | (with_reducible refine Kd.C_drew ?_))); (case side2 => exact (Kd.R_reads' HO_7.out).2.1); rintro e w19 ⟨rfl, hb⟩; refine ⟨_, rfl, ?_⟩; have n0_ := Az.mk (Kd.Rb (by (with_reducible repeat first|apply Kd.Ra|apply Kd.Rn|apply Kd.Rw); exact HO_6.out) hb); have n1_ := Az.mk (Kd.Rb (by (with_reducible repeat first|apply Kd.Ra|apply Kd.Rn|apply Kd.Rw); exact HO_7.out) hb); have n2_ := Az.mk (Kd.Rb (by (with_reducible repeat first|apply Kd.Ra|apply Kd.Rn|apply Kd.Rw); exact HO558.out) hb); have n3_ := Az.mk (bS (by repeat first|exact HB.out|apply bA|apply bN|apply bD) hb); clear HO_6; clear HO_7; clear HO558; clear HB; have HO_6 := n0_; have HO_7 := n1_; have HO558 := n2_; have HB := n3_; clear n0_ n1_ n2_ n3_; (try clear hb); (try clear hb2); (try clear hk); (try clear hi)))
       go_loopg [8, 40] kj10 (fun kq v8 v40 w' => ∃ (x8_3 : ByteArray) (x40_3 : Int), v8 = .string x8_3 ∧ v40 = .int .i64 x40_3 ∧ Az (spec_CellsText.l1 kq t550 t553 x8_3 t556 (t546.length : Int) x28_1 t559 x40_3 = some (r1, r2)) ∧ Az (kq ≤ kj10) ∧ Az (Kd.R k31 31 w' w.heap.size (fun _ => True) (.slice Ao16 t550.length co16) t550) ∧ Az (Kd.R (Kd.int .i64) 3 w' w.heap.size (fun k_ => some k_ ≠ (v557 : Value).ownBlock) (.slice Ao18 t553.length co18) t553) ∧ Az (Kd.R (Kd.int .i64) 3 w' w.heap.size (fun k_ => some k_ ≠ ((.slice Ao18 t553.length co18) : Value).ownBlock) v557 t556) ∧ Az (Below w.heap.size w w'))
       case atStart => exact ⟨(x8_10), (0), (by first | rfl | (simp; done) | (simp [*]; done)), (by first | rfl | (simp; done) | (simp [*]; done)), H', ⟨Nat.le_refl _⟩, ⟨by (with_reducible repeat first|apply Kd.Ra|apply Kd.Rn|apply Kd.Rw); exact HO_6.out⟩, ⟨by (with_reducible repeat first|apply Kd.Ra|apply Kd.Rn|apply Kd.Rw); exact Kd.R_mono HO_7.out (fun _ hk => hk.2)⟩, ⟨by (with_reducible repeat first|apply Kd.Ra|apply Kd.Rn|apply Kd.Rw); exact Kd.R_mono HO558.out (fun _ hk => hk.2)⟩, ⟨by repeat (first | (with_reducible first|exact HB.out|apply bA|apply bN|apply bD) | exact HB.out)⟩⟩
       case round =>
        clear H'
        try clear c1
        try clear p2
        try clear c3
        try clear c5
        try clear c6
        try clear c10
        try clear c10b0
        try clear c12
        try clear c12b0
        try clear c13
        try clear c13b0
        try clear c13b1
        try clear c13b2
        try clear p2
        obtain ⟨x8_3, x40_3, rfl, rfl, HA, HK3, HO_6, HO_7, HO_10, HB⟩ := hrel
        cases gk with
        | zero => exact absurd HA.out (by simp [spec_CellsText.l1])
        | succ k3 =>
         have H := HA.out
         clear HA
         simp only [spec_CellsText.l1] at H
         by_cases c20 : x40_3 < t559
         ·rw [if_pos c20] at H
          have c20b0 : decide (x40_3 < t559) = true := decide_eq_true c20
          clear c20
          have H' := Az.mk H
          clear H
          obtain ⟨Ao21, co21, eo21⟩ := Kd.R_slice HO_10.out
          subst eo21
          go_wp2
          go_loopg [12, 45] k3 (fun kq v12 v45 w' => ∃ (x12_4 : ByteArray) (x45_4 : Int), v12 = .string x12_4 ∧ v45 = .int .i64 x45_4 ∧ Az (spec_CellsText.l2 kq t550 t553 x8_3 t556 x40_3 x12_4 (t546.length : Int) x28_1 t559 x40_3 t556 (t556.length : Int) x45_4 = some (r1, r2)) ∧ Az (kq ≤ k3) ∧ Az (Kd.R k31 31 w' w.heap.size (fun _ => True) (.slice Ao16 t550.length co16) t550) ∧ Az (Kd.R (Kd.int .i64) 3 w' w.heap.size (fun k_ => some k_ ≠ ((.slice Ao21 t556.length co21) : Value).ownBlock ∧ some k_ ≠ ((.slice Ao21 t556.length co21) : Value).ownBlock) (.slice Ao18 t553.length co18) t553) ∧ Az (Kd.R (Kd.int .i64) 3 w' w.heap.size (fun k_ => some k_ ≠ ((.slice Ao18 t553.length co18) : Value).ownBlock) (.slice Ao21 t556.length co21) t556) ∧ Az (Kd.R (Kd.int .i64) 3 w' w.heap.size (fun k_ => some k_ ≠ ((.slice Ao18 t553.length co18) : Value).ownBlock) (.slice Ao21 t556.length co21) t556) ∧ Az (Below w.heap.size w w'))
          case atStart => exact ⟨((⟨#[46]⟩ : ByteArray)), (0), (by first | rfl | (simp; done) | (simp [*]; done)), (by first | rfl | (simp; done) | (simp [*]; done)), H', ⟨Nat.le_refl _⟩, ⟨by (with_reducible repeat first|apply Kd.Ra|apply Kd.Rn|apply Kd.Rw); exact HO_6.out⟩, ⟨by (with_reducible repeat first|apply Kd.Ra|apply Kd.Rn|apply Kd.Rw); exact Kd.R_mono HO_7.out (fun _ hk => ⟨hk, hk⟩)⟩, ⟨by (with_reducible repeat first|apply Kd.Ra|apply Kd.Rn|apply Kd.Rw); exact HO_10.out⟩, ⟨by (with_reducible repeat first|apply Kd.Ra|apply Kd.Rn|apply Kd.Rw); exact HO_10.out⟩, ⟨by repeat (first | (with_reducible first|exact HB.out|apply bA|apply bN|apply bD) | exact HB.out)⟩⟩
          case round =>
           clear H'
           try clear c1
           try clear c2
           try clear p2
           try clear c3
           try clear c5
           try clear c6
           try clear c10
           try clear c10b0
           try clear c12
           try clear c12b0
           try clear c13
           try clear c13b0
           try clear c13b1
           try clear c13b2
           try clear c20
           try clear c20b0
           try clear p2
           obtain ⟨x12_4, x45_4, rfl, rfl, HA, HK4, HO_6, HO_7, HO_10, HO_43, HB⟩ := hrel
           cases gk with
           | zero => exact absurd HA.out (by simp [spec_CellsText.l2])
           | succ k4 =>
            have H := HA.out
            clear HA
            simp only [spec_CellsText.l2] at H
            by_cases c22 : x45_4 < (t556.length : Int)
            ·rw [if_pos c22] at H
             have c22b0 : decide (x45_4 < (t556.length : Int)) = true := decide_eq_true c22
             clear c22
             by_cases c23 : 0 ≤ x45_4
             ·rw [if_pos c23] at H
              have c23b0 : decide (0 ≤ x45_4) = true := decide_eq_true c23
              clear c23
              by_cases c24 : x45_4 < (t556.length : Int)
              ·rw [if_pos c24] at H
               have c24b0 : decide (x45_4 < (t556.length : Int)) = true := decide_eq_true c24
               clear c24
               obtain ⟨ji25, hji25⟩ : ∃ j_ : Int, (wrap64 ((rd t556 x45_4) - 1)) = j_ := ⟨_, rfl⟩
               replace H : (if 0 ≤ (ji25) then (if (ji25) < (t553.length : Int) then (if (rd t553 (ji25)) = x40_3 then ((spec_l13Dec.f k4 (rd t556 x45_4)).bind fun t562 => (spec_CellsText.l2 k4 t550 t553 x8_3 t556 x40_3 t562 (t546.length : Int) x28_1 t559 x40_3 t556 (t556.length : Int) (wrap64 (x45_4 + 1)))) else (spec_CellsText.l2 k4 t550 t553 x8_3 t556 x40_3 x12_4 (t546.length : Int) x28_1 t559 x40_3 t556 (t556.length : Int) (wrap64 (x45_4 + 1)))) else (none)) else (none)) = some (r1, r2) := by first | (rw [hji25] at H; exact H) | (simp only [hji25] at H ⊢; exact H)
               have hji25w : (IntKind.i64.wrap ((rd t556 x45_4) - 1)) = ji25 := (i64_w _).trans hji25
               by_cases c26 : 0 ≤ (ji25)
               ·rw [if_pos c26] at H
                have c26b0 : decide (0 ≤ (ji25)) = true := decide_eq_true c26
                clear c26
                by_cases c27 : (ji25) < (t553.length : Int)
                ·rw [if_pos c27] at H
                 have c27b0 : decide ((ji25) < (t553.length : Int)) = true := decide_eq_true c27
                 clear c27
                 by_cases c28 : (rd t553 (ji25)) = x40_3
                 ·rw [if_pos c28] at H
                  have c28b0 : ((rd t553 (ji25)) == x40_3) = true := beq_iff_eq.mpr c28
                  have c28b1 : ((rd t553 (ji25)) != x40_3) = false := bne_eq_false_iff_eq.mpr c28
                  clear c28
                  replace H := Option.bind_eq_some_iff.mp H
                  obtain ⟨t562, A290, H⟩ := H
                  replace H : (spec_CellsText.l2 k4 t550 t553 x8_3 t556 x40_3 t562 (t546.length : Int) x28_1 t559 x40_3 t556 (t556.length : Int) (wrap64 (x45_4 + 1))) = some (r1, r2) := H
                  have A29 := Az.mk A290
                  clear A290
                  have H' := Az.mk H
                  clear H
                  have p560 : 0 ≤ (x45_4 : Int) := of_decide_eq_true (by first|(with_reducible assumption)|assumption)
                  have q560 : x45_4 < (t556.length : Int) := of_decide_eq_true (by first|(with_reducible assumption)|assumption)
                  obtain ⟨ad560, e560, hx560_0⟩ := Kd.at_int (Kd.R_reads' HO_43.out).2.2 x45_4 p560 q560
                  cases e560
                  replace p560 := eq_true p560
                  replace q560 := eq_true q560
                  have p561 : 0 ≤ ((ji25) : Int) := of_decide_eq_true (by first|(with_reducible assumption)|assumption)
                  have q561 : (ji25) < (t553.length : Int) := of_decide_eq_true (by first|(with_reducible assumption)|assumption)
                  obtain ⟨ad561, e561, hx561_0⟩ := Kd.at_int (Kd.R_reads' HO_7.out).2.2 (ji25) p561 q561
                  cases e561
                  replace p561 := eq_true p561
                  replace q561 := eq_true q561
                  go_wp2_with (first | ((with_reducible refine gate_callee (f := 67) rfl ?_); refine goesL_ (some 57) rfl rfl Tryz.func67 (by kernel_rfl) rfl #[.int .i64 (rd t556 x45_4)] rfl (by (try simp only [List.map_toArray, List.map_cons, List.map_nil]); first | done | rfl | (simp only [List.length_drop, List.length_take]; rfl)) ?_; (with_reducible refine (spec_l13Dec.calls k4 (rd t556 x45_4) t562 _ A29.out).mono ?_); rintro e w30 ⟨rfl, hb⟩; refine ⟨_, rfl, ?_⟩; have n0_ := Az.mk (Kd.Rb (by (with_reducible repeat first|apply Kd.Ra|apply Kd.Rn|apply Kd.Rw); exact HO_6.out) hb); have n1_ := Az.mk (Kd.Rb (by (with_reducible repeat first|apply Kd.Ra|apply Kd.Rn|apply Kd.Rw); exact HO_7.out) hb); have n2_ := Az.mk (Kd.Rb (by (with_reducible repeat first|apply Kd.Ra|apply Kd.Rn|apply Kd.Rw); exact HO_10.out) hb); have n3_ := Az.mk (Kd.Rb (by (with_reducible repeat first|apply Kd.Ra|apply Kd.Rn|apply Kd.Rw); exact HO_43.out) hb); have n4_ := Az.mk (bS (by repeat first|exact HB.out|apply bA|apply bN|apply bD) hb); clear HO_6; clear HO_7; clear HO_10; clear HO_43; clear HB; have HO_6 := n0_; have HO_7 := n1_; have HO_10 := n2_; have HO_43 := n3_; have HB := n4_; clear n0_ n1_ n2_ n3_ n4_; (try clear hb); (try clear hb2); (try clear hk); (try clear hi)))
                  go_roundg k4
                  case measure => have := HK1.out; have := HJ10.out; have := HK3.out; have := HK4.out; omega
                  case rel => exact ⟨(t562), (wrap64 (x45_4 + 1)), (by first | rfl | (simp; done) | (simp [*]; done)), (by first | rfl | (simp; done) | (simp [*]; done)), H', ⟨by have := HK1.out; have := HJ10.out; have := HK3.out; have := HK4.out; omega⟩, ⟨by (with_reducible repeat first|apply Kd.Ra|apply Kd.Rn|apply Kd.Rw); exact HO_6.out⟩, ⟨by (with_reducible repeat first|apply Kd.Ra|apply Kd.Rn|apply Kd.Rw); exact HO_7.out⟩, ⟨by (with_reducible repeat first|apply Kd.Ra|apply Kd.Rn|apply Kd.Rw); exact HO_10.out⟩, ⟨by (with_reducible repeat first|apply Kd.Ra|apply Kd.Rn|apply Kd.Rw); exact HO_43.out⟩, ⟨by repeat (first | (with_reducible first|exact HB.out|apply bA|apply bN|apply bD) | exact HB.out)⟩⟩
                 ·rw [if_neg c28] at H
                  have c28b0 : ((rd t553 (ji25)) == x40_3) = false := beq_eq_false_iff_ne.mpr c28
                  have c28b1 : ((rd t553 (ji25)) != x40_3) = true := bne_iff_ne.mpr c28
                  have H' := Az.mk H
                  clear H
                  have p560 : 0 ≤ (x45_4 : Int) := of_decide_eq_true (by first|(with_reducible assumption)|assumption)
                  have q560 : x45_4 < (t556.length : Int) := of_decide_eq_true (by first|(with_reducible assumption)|assumption)
                  obtain ⟨ad560, e560, hx560_0⟩ := Kd.at_int (Kd.R_reads' HO_43.out).2.2 x45_4 p560 q560
                  cases e560
                  replace p560 := eq_true p560
                  replace q560 := eq_true q560
                  have p561 : 0 ≤ ((ji25) : Int) := of_decide_eq_true (by first|(with_reducible assumption)|assumption)
                  have q561 : (ji25) < (t553.length : Int) := of_decide_eq_true (by first|(with_reducible assumption)|assumption)
                  obtain ⟨ad561, e561, hx561_0⟩ := Kd.at_int (Kd.R_reads' HO_7.out).2.2 (ji25) p561 q561
                  cases e561
                  replace p561 := eq_true p561
                  replace q561 := eq_true q561
                  go_wp2
                  go_roundg k4
                  case measure => have := HK1.out; have := HJ10.out; have := HK3.out; have := HK4.out; omega
                  case rel => exact ⟨(x12_4), (wrap64 (x45_4 + 1)), (by first | rfl | (simp; done) | (simp [*]; done)), (by first | rfl | (simp; done) | (simp [*]; done)), H', ⟨by have := HK1.out; have := HJ10.out; have := HK3.out; have := HK4.out; omega⟩, ⟨by (with_reducible repeat first|apply Kd.Ra|apply Kd.Rn|apply Kd.Rw); exact HO_6.out⟩, ⟨by (with_reducible repeat first|apply Kd.Ra|apply Kd.Rn|apply Kd.Rw); exact HO_7.out⟩, ⟨by (with_reducible repeat first|apply Kd.Ra|apply Kd.Rn|apply Kd.Rw); exact HO_10.out⟩, ⟨by (with_reducible repeat first|apply Kd.Ra|apply Kd.Rn|apply Kd.Rw); exact HO_43.out⟩, ⟨by repeat (first | (with_reducible first|exact HB.out|apply bA|apply bN|apply bD) | exact HB.out)⟩⟩
                ·rw [if_neg c27] at H
                 exact absurd H (by simp)
               ·rw [if_neg c26] at H
                exact absurd H (by simp)
              ·rw [if_neg c24] at H
               exact absurd H (by simp)
             ·rw [if_neg c23] at H
              exact absurd H (by simp)
            ·rw [if_neg c22] at H
             have c22b0 : decide (x45_4 < (t556.length : Int)) = false := decide_eq_false c22
             clear c22
             by_cases c31 : x40_3 > 0
             ·rw [if_pos c31] at H
              have c31b0 : decide (0 < x40_3) = true := decide_eq_true c31
              clear c31
              by_cases c32 : x8_3.size + 1 ≤ 9223372036854775807
              ·rw [if_pos c32] at H
               have c32b0 := eq_true c32
               have c32b1 : decide (x8_3.size + 1 ≤ 9223372036854775807) = true := decide_eq_true c32
               try have c32b2 : (9223372036854775807 < x8_3.size + 1) = False := eq_false (Nat.not_lt.2 c32)
               by_cases c33 : (x8_3 ++ (⟨#[32]⟩ : ByteArray)).size + x12_4.size ≤ 9223372036854775807
               ·rw [if_pos c33] at H
                have c33b0 := eq_true c33
                have c33b1 : decide ((x8_3 ++ (⟨#[32]⟩ : ByteArray)).size + x12_4.size ≤ 9223372036854775807) = true := decide_eq_true c33
                try have c33b2 : (9223372036854775807 < (x8_3 ++ (⟨#[32]⟩ : ByteArray)).size + x12_4.size) = False := eq_false (Nat.not_lt.2 c33)
                have c33z : x8_3.size + 1 + x12_4.size ≤ 9223372036854775807 := by have h := c33; simp only [ByteArray.size_append] at h; exact h
                have c33b4 : decide (x8_3.size + 1 + x12_4.size ≤ 9223372036854775807) = true := decide_eq_true c33z
                have c33b5 : (9223372036854775807 < x8_3.size + 1 + x12_4.size) = False := eq_false (Nat.not_lt.2 c33z)
                replace c33z := eq_true c33z
                have H' := Az.mk H
                clear H
                go_wp2
                go_roundg k4
                case measure => have := HK1.out; have := HJ10.out; have := HK3.out; have := HK4.out; omega
                case rel => exact ⟨((x8_3 ++ (⟨#[32]⟩ : ByteArray)) ++ x12_4), (wrap64 (x40_3 + 1)), (by first | rfl | (simp; done) | (simp [*]; done)), (by first | rfl | (simp; done) | (simp [*]; done)), H', ⟨by have := HK1.out; have := HJ10.out; have := HK3.out; have := HK4.out; omega⟩, ⟨by (with_reducible repeat first|apply Kd.Ra|apply Kd.Rn|apply Kd.Rw); exact HO_6.out⟩, ⟨by (with_reducible repeat first|apply Kd.Ra|apply Kd.Rn|apply Kd.Rw); exact Kd.R_mono HO_7.out (fun _ hk => hk.1)⟩, ⟨by (with_reducible repeat first|apply Kd.Ra|apply Kd.Rn|apply Kd.Rw); exact HO_10.out⟩, ⟨by repeat (first | (with_reducible first|exact HB.out|apply bA|apply bN|apply bD) | exact HB.out)⟩⟩
               ·rw [if_neg c33] at H
                exact absurd H (by simp)
              ·rw [if_neg c32] at H
               exact absurd H (by simp)
             ·rw [if_neg c31] at H
              have c31b0 : decide (0 < x40_3) = false := decide_eq_false c31
              clear c31
              by_cases c34 : x8_3.size + x12_4.size ≤ 9223372036854775807
              ·rw [if_pos c34] at H
               have c34b0 := eq_true c34
               have c34b1 : decide (x8_3.size + x12_4.size ≤ 9223372036854775807) = true := decide_eq_true c34
               try have c34b2 : (9223372036854775807 < x8_3.size + x12_4.size) = False := eq_false (Nat.not_lt.2 c34)
               have H' := Az.mk H
               clear H
               go_wp2
               go_roundg k4
               case measure => have := HK1.out; have := HJ10.out; have := HK3.out; have := HK4.out; omega
               case rel => exact ⟨(x8_3 ++ x12_4), (wrap64 (x40_3 + 1)), (by first | rfl | (simp; done) | (simp [*]; done)), (by first | rfl | (simp; done) | (simp [*]; done)), H', ⟨by have := HK1.out; have := HJ10.out; have := HK3.out; have := HK4.out; omega⟩, ⟨by (with_reducible repeat first|apply Kd.Ra|apply Kd.Rn|apply Kd.Rw); exact HO_6.out⟩, ⟨by (with_reducible repeat first|apply Kd.Ra|apply Kd.Rn|apply Kd.Rw); exact Kd.R_mono HO_7.out (fun _ hk => hk.1)⟩, ⟨by (with_reducible repeat first|apply Kd.Ra|apply Kd.Rn|apply Kd.Rw); exact HO_10.out⟩, ⟨by repeat (first | (with_reducible first|exact HB.out|apply bA|apply bN|apply bD) | exact HB.out)⟩⟩
              ·rw [if_neg c34] at H
               exact absurd H (by simp)
         ·rw [if_neg c20] at H
          have c20b0 : decide (x40_3 < t559) = false := decide_eq_false c20
          clear c20
          have H' := Az.mk H
          clear H
          go_wp2
          go_roundg k3
          case measure => have := HK1.out; have := HJ10.out; have := HK3.out; omega
          case rel => exact ⟨(x8_3), (wrap64 (x28_1 + 1)), (by first | rfl | (simp; done) | (simp [*]; done)), (by first | rfl | (simp; done) | (simp [*]; done)), H', ⟨by have := HK1.out; have := HJ10.out; have := HK3.out; omega⟩, ⟨by (with_reducible repeat first|apply Kd.Ra|apply Kd.Rn|apply Kd.Rw); exact HO_6.out⟩, ⟨by (with_reducible repeat first|apply Kd.Ra|apply Kd.Rn|apply Kd.Rw); exact Kd.R_mono HO_7.out (fun _ hk => trivial)⟩, ⟨by repeat (first | (with_reducible first|exact HB.out|apply bA|apply bN|apply bD) | exact HB.out)⟩⟩
    ·rw [if_neg c10] at H
     have c10b0 : decide (x28_1 < (t546.length : Int)) = false := decide_eq_false c10
     clear c10
     by_cases c35 : x8_1.toList = ([] : List UInt8)
     ·rw [if_pos c35] at H
      have c35b0 : (x8_1.toList == ([] : List UInt8)) = true := beq_iff_eq.mpr c35
      have c35b1 : (x8_1.toList != ([] : List UInt8)) = false := bne_eq_false_iff_eq.mpr c35
      clear c35
      simp only [Option.some.injEq, Prod.mk.injEq] at H
      obtain ⟨rfl, rfl⟩ := H
      go_wp2
      go_ret2
      exact ⟨by first | rfl | (simp [errW_none, errW_some] <;> rfl) | (simp [*, errW_none, errW_some] <;> rfl), by repeat (first | (with_reducible first|exact HB.out|apply bA|apply bN|apply bD) | exact HB.out)⟩
     ·rw [if_neg c35] at H
      have c35b0 : (x8_1.toList == ([] : List UInt8)) = false := beq_eq_false_iff_ne.mpr c35
      have c35b1 : (x8_1.toList != ([] : List UInt8)) = true := bne_iff_ne.mpr c35
      simp only [Option.some.injEq, Prod.mk.injEq] at H
      obtain ⟨rfl, rfl⟩ := H
      go_wp2
      go_ret2
      exact ⟨by first | rfl | (simp [errW_none, errW_some] <;> rfl) | (simp [*, errW_none, errW_some] <;> rfl), by repeat (first | (with_reducible first|exact HB.out|apply bA|apply bN|apply bD) | exact HB.out)⟩
 ·replace c3 := Bool.eq_false_iff.mpr c3
  subst c3
  have H1 : (some ((⟨#[]⟩ : ByteArray), false)) = some (r1, r2) := by rw [if_neg (show ¬ (false = true) by decide)] at H; exact H
  clear H
  have H := H1
  clear H1
  simp only [Option.some.injEq, Prod.mk.injEq] at H
  obtain ⟨rfl, rfl⟩ := H
  go_enter Tryz.func32, Tryz.ntmps32
  go_wp2_with (first | ((with_reducible refine gate_callee (f := 54) rfl ?_); refine goesL_ (some 17) rfl rfl Tryz.func54 (by kernel_rfl) rfl #[.string a0] rfl (by (try simp only [List.map_toArray, List.map_cons, List.map_nil]); first | done | rfl | (simp only [List.length_drop, List.length_take]; rfl)) ?_; (with_reducible refine (spec_l7Read.calls k a0 t546 false _ A2.out).mono ?_); rintro e w36 ⟨v548, rfl, ho0, hb⟩; refine ⟨_, rfl, ?_⟩; have n0_ := Az.mk (Kd.R_lower ho0 (bZ (by repeat first|exact HB.out|apply bA|apply bN|apply bD))); have n1_ := Az.mk (bS (by repeat first|exact HB.out|apply bA|apply bN|apply bD) hb); clear HB; have HO549 := n0_; have HB := n1_; clear n0_ n1_; (try clear hb); (try clear hb2); (try clear hk); (try clear hi); (try clear ho0)))
  go_ret2
  exact ⟨by first | rfl | (simp [errW_none, errW_some] <;> rfl) | (simp [*, errW_none, errW_some] <;> rfl), by repeat (first | (with_reducible first|exact HB.out|apply bA|apply bN|apply bD) | exact HB.out)⟩
end Go.Proofs.YtndjbnkmhpbnpaaGreatDoor.Pr
namespace Go.Proofs.YtndjbnkmhpbnpaaGreatDoor.Pr
open Go.RowKit Go.Proofs.YtndjbnkmhpbnpaaGreatDoorW.PrintWords Go.Proofs.YtndjbnkmhpbnpaaGreatDoorW.PrintLast Go.Proofs.YtndjbnkmhpbnpaaGreatDoorW.PrintMore
attribute [local go_sem] max2_int min2_int max_two min_two max_three min_three max_four min_four   -- for this text's walks alone
set_option linter.unusedVariables false
set_option linter.unusedSimpArgs false
def laws_elWords.l0 : Nat → ByteArray → List ByteArray → ByteArray → Int → Int → Option (List ByteArray)
 | 0, _, _, _, _, _ => none
 | k + 1, x0, x3, x4, x8, x9 => if x9 < x8 then (if 0 ≤ x9 then (if x9 < (x0.size : Int) then (if (bt x0 x9) = 32 then (if x3.length < 8796093022208 then (laws_elWords.l0 k x0 (x3 ++ [x4]) (⟨#[]⟩ : ByteArray) x8 (wrap64 (x9 + 1))) else (none)) else (if x9 ≤ (wrap64 (x9 + 1)) then (if (wrap64 (x9 + 1)) ≤ (x0.size : Int) then (if x4.size + (x0.extract (x9 : Int).toNat ((wrap64 (x9 + 1)) : Int).toNat).size ≤ 9223372036854775807 then (laws_elWords.l0 k x0 x3 (x4 ++ (x0.extract (x9 : Int).toNat ((wrap64 (x9 + 1)) : Int).toNat)) x8 (wrap64 (x9 + 1))) else (none)) else (none)) else (none))) else (none)) else (none)) else (if x3.length < 8796093022208 then (some (x3 ++ [x4])) else (none))
def laws_elWords.f (k : Nat) (a0 : ByteArray) : Option (List ByteArray) := laws_elWords.l0 k a0 (([] : List ByteArray)) (⟨#[]⟩ : ByteArray) (a0.size : Int) 0
set_option maxHeartbeats 8000000 in
set_option maxRecDepth 100000 in
theorem laws_elWords.calls (k : Nat) (a0 : ByteArray) (r : List ByteArray) (w : World) (h : laws_elWords.f k a0 = some r) :
  Calls Tryz.prog 33 #[.string a0] w fun e w' => ∃ v0_ : Value, e = .returned (v0_) ∧ Kd.R Kd.string 9 w' w.heap.size (fun _ => True) v0_ r ∧ Below w.heap.size w w' := by
 have HB := Az.mk (Below.refl w.heap.size w)
 have H : (laws_elWords.l0 k a0 (([] : List ByteArray)) (⟨#[]⟩ : ByteArray) (a0.size : Int) 0) = some r := h
 clear h
 obtain ⟨y563, hy563⟩ : ∃ y_ : List ByteArray, y_ = (([] : List ByteArray)) := ⟨_, rfl⟩
 replace H : (laws_elWords.l0 k a0 y563 (⟨#[]⟩ : ByteArray) (a0.size : Int) 0) = some r := by first | (rw [hy563]; with_reducible exact H) | (have H2_ := (Option.bind_some _ _).symm.trans H; rw [hy563]; with_reducible exact H2_) | (have H2_ := (Option.bind_some _ _).symm.trans H; with_reducible exact H2_) | with_reducible exact H | (rw [hy563]; exact H) | exact H
 have Ny563 := Az.mk hy563
 clear hy563
 have H' := Az.mk H
 clear H
 go_enter Tryz.func33, Tryz.ntmps33
 go_wp2_with (first | ((with_reducible refine gate_dst (N := 6) rfl ?_); refine Kd.R_lit Kd.string _ 9 ?hg (N := 6) ?hd (xs := ([] : List ByteArray)) (inner := []) (ok := fun _ => True) (okp := fun _ => True) ?hr ?hp (fun _ hk => hk) trivial (Below.refl _ _) (Nat.le_refl _) (by simp) ?_; (case hd => rfl); (case hg => rfl); (case hr => first | (go_simp; done) | (go_simp; rfl)); (case hp => exact (Reps.none _ _)); intro v564 w2 ho3 hb hg_ hnew_; clear hg_ hnew_; (first | rw [← Ny563.out] at ho3 | (simp only [Int.reduceToNat] at ho3; rw [← Ny563.out] at ho3)); have n0_ := Az.mk (Kd.R_lower ho3 (bZ (by repeat first|exact HB.out|apply bA|apply bN|apply bD))); have n1_ := Az.mk (bS (by repeat first|exact HB.out|apply bA|apply bN|apply bD) hb); clear HB; have HO565 := n0_; have HB := n1_; clear n0_ n1_; clear hb ho3))
 go_loopg [3, 4, 9] k (fun kq v3 v4 v9 w' => ∃ (x3_1 : List ByteArray) (x4_1 : ByteArray) (x9_1 : Int), v4 = .string x4_1 ∧ v9 = .int .i64 x9_1 ∧ Az (laws_elWords.l0 kq a0 x3_1 x4_1 (a0.size : Int) x9_1 = some r) ∧ Az (kq ≤ k) ∧ Az (Kd.R Kd.string 9 w' w.heap.size (fun _ => True) v3 x3_1) ∧ Az (Below w.heap.size w w'))
 case atStart => exact ⟨(y563), ((⟨#[]⟩ : ByteArray)), (0), (by first | rfl | (simp; done) | (simp [*]; done)), (by first | rfl | (simp; done) | (simp [*]; done)), H', ⟨Nat.le_refl _⟩, ⟨by (with_reducible repeat first|apply Kd.Ra|apply Kd.Rn|apply Kd.Rw); exact HO565.out⟩, ⟨by repeat (first | (with_reducible first|exact HB.out|apply bA|apply bN|apply bD) | exact HB.out)⟩⟩
 case round =>
  clear H'
  try clear p2
  try clear c3
  obtain ⟨x3_1, x4_1, x9_1, rfl, rfl, HA, HK1, HO_3, HB⟩ := hrel
  cases gk with
  | zero => exact absurd HA.out (by simp [laws_elWords.l0])
  | succ k1 =>
   have H := HA.out
   clear HA
   simp only [laws_elWords.l0] at H
   by_cases c4 : x9_1 < (a0.size : Int)
   ·rw [if_pos c4] at H
    have c4b0 : decide (x9_1 < (a0.size : Int)) = true := decide_eq_true c4
    clear c4
    by_cases c5 : 0 ≤ x9_1
    ·rw [if_pos c5] at H
     have c5b0 : decide (0 ≤ x9_1) = true := decide_eq_true c5
     clear c5
     by_cases c6 : x9_1 < (a0.size : Int)
     ·rw [if_pos c6] at H
      have c6b0 : decide (x9_1 < (a0.size : Int)) = true := decide_eq_true c6
      clear c6
      by_cases c8 : (bt a0 x9_1) = 32
      ·rw [if_pos c8] at H
       have c8b0 : ((bt a0 x9_1) == 32) = true := beq_iff_eq.mpr c8
       have c8b1 : ((bt a0 x9_1) != 32) = false := bne_eq_false_iff_eq.mpr c8
       clear c8
       by_cases c9 : x3_1.length < 8796093022208
       ·rw [if_pos c9] at H
        have LMc9 := Az.mk c9
        clear c9
        obtain ⟨y566, hy566⟩ : ∃ y_ : List ByteArray, y_ = (x3_1 ++ [x4_1]) := ⟨_, rfl⟩
        replace H : (laws_elWords.l0 k1 a0 y566 (⟨#[]⟩ : ByteArray) (a0.size : Int) (wrap64 (x9_1 + 1))) = some r := by first | (rw [hy566]; with_reducible exact H) | (have H2_ := (Option.bind_some _ _).symm.trans H; rw [hy566]; with_reducible exact H2_) | (have H2_ := (Option.bind_some _ _).symm.trans H; with_reducible exact H2_) | with_reducible exact H | (rw [hy566]; exact H) | exact H
        have Ny566 := Az.mk hy566
        clear hy566
        have H' := Az.mk H
        clear H
        have p7 : 0 ≤ (x9_1 : Int) := of_decide_eq_true (by first|(with_reducible assumption)|assumption)
        have q7 : x9_1 < (a0.size : Int) := of_decide_eq_true (by first|(with_reducible assumption)|assumption)
        have hx7 := bt_at a0 x9_1
        replace p7 := eq_true p7
        replace q7 := eq_true q7
        go_wp2_with (first | ((with_reducible refine gate_builtin (b := .append) (xs := #[.tmp 16, .tmp 18]) rfl ?_); at_builtin; refine Kd.R_append Kd.string (w0 := w) w.heap.size rfl (.tmp 16) (.tmp 18) 39 9 (.string ⟨#[]⟩) 16 rfl Tryz.underlying39 info9 rfl (by decide) (by omega) u3 x3_1 x4_1 [.string x4_1] (fun _ => True) (fun _ => False) rfl rfl ?aP (fun _ hk => hk.elim) ?aF ?aO ?aB ?aS ?aL ?_; (case aP => exact rfl); (case aB => exact (by repeat first|exact HB.out|apply bA|apply bN|apply bD)); (case aF => exact (fun _ _ => trivial)); (case aO => exact (by (with_reducible repeat first|apply Kd.Ra|apply Kd.Rn|apply Kd.Rw); exact HO_3.out)); (case aS => exact (bZ (by repeat first|exact HB.out|apply bA|apply bN|apply bD))); (case aL => have := LMc9.out; omega); intro v567 w10 ho hb hg hat; rw [← Ny566.out] at ho; have n0_ := Az.mk (hb); have n1_ := Az.mk (ho); clear HB; clear HO_3; have HB := n0_; have HO568 := n1_; clear n0_ n1_; clear ho hb hg hat))
        go_roundg k1
        case measure => have := HK1.out; omega
        case rel => exact ⟨(y566), ((⟨#[]⟩ : ByteArray)), (wrap64 (x9_1 + 1)), (by first | rfl | (simp; done) | (simp [*]; done)), (by first | rfl | (simp; done) | (simp [*]; done)), H', ⟨by have := HK1.out; omega⟩, ⟨by (with_reducible repeat first|apply Kd.Ra|apply Kd.Rn|apply Kd.Rw); exact HO568.out⟩, ⟨by repeat (first | (with_reducible first|exact HB.out|apply bA|apply bN|apply bD) | exact HB.out)⟩⟩
       ·rw [if_neg c9] at H
        exact absurd H (by simp)
      ·rw [if_neg c8] at H
       have c8b0 : ((bt a0 x9_1) == 32) = false := beq_eq_false_iff_ne.mpr c8
       have c8b1 : ((bt a0 x9_1) != 32) = true := bne_iff_ne.mpr c8
       have c11b0 := eq_true (of_decide_eq_true (by first|(with_reducible assumption)|assumption) : 0 ≤ x9_1)
       by_cases c12 : x9_1 ≤ (wrap64 (x9_1 + 1))
       ·rw [if_pos c12] at H
        have c12b0 := eq_true c12
        have c12b1 : decide (x9_1 ≤ (wrap64 (x9_1 + 1))) = true := decide_eq_true c12
        by_cases c13 : (wrap64 (x9_1 + 1)) ≤ (a0.size : Int)
        ·rw [if_pos c13] at H
         have c13b0 := eq_true c13
         have c13b1 : decide ((wrap64 (x9_1 + 1)) ≤ (a0.size : Int)) = true := decide_eq_true c13
         by_cases c14 : x4_1.size + (a0.extract (x9_1 : Int).toNat ((wrap64 (x9_1 + 1)) : Int).toNat).size ≤ 9223372036854775807
         ·rw [if_pos c14] at H
          have c14b0 := eq_true c14
          have c14b1 : decide (x4_1.size + (a0.extract (x9_1 : Int).toNat ((wrap64 (x9_1 + 1)) : Int).toNat).size ≤ 9223372036854775807) = true := decide_eq_true c14
          try have c14b2 : (9223372036854775807 < x4_1.size + (a0.extract (x9_1 : Int).toNat ((wrap64 (x9_1 + 1)) : Int).toNat).size) = False := eq_false (Nat.not_lt.2 c14)
          have H' := Az.mk H
          clear H
          have p7 : 0 ≤ (x9_1 : Int) := of_decide_eq_true (by first|(with_reducible assumption)|assumption)
          have q7 : x9_1 < (a0.size : Int) := of_decide_eq_true (by first|(with_reducible assumption)|assumption)
          have hx7 := bt_at a0 x9_1
          replace p7 := eq_true p7
          replace q7 := eq_true q7
          go_wp2
          go_roundg k1
          case measure => have := HK1.out; omega
          case rel => exact ⟨(x3_1), (x4_1 ++ (a0.extract (x9_1 : Int).toNat ((wrap64 (x9_1 + 1)) : Int).toNat)), (wrap64 (x9_1 + 1)), (by first | rfl | (simp; done) | (simp [*]; done)), (by first | rfl | (simp; done) | (simp [*]; done)), H', ⟨by have := HK1.out; omega⟩, ⟨by (with_reducible repeat first|apply Kd.Ra|apply Kd.Rn|apply Kd.Rw); exact HO_3.out⟩, ⟨by repeat (first | (with_reducible first|exact HB.out|apply bA|apply bN|apply bD) | exact HB.out)⟩⟩
         ·rw [if_neg c14] at H
          exact absurd H (by simp)
        ·rw [if_neg c13] at H
         exact absurd H (by simp)
       ·rw [if_neg c12] at H
        exact absurd H (by simp)
     ·rw [if_neg c6] at H
      exact absurd H (by simp)
    ·rw [if_neg c5] at H
     exact absurd H (by simp)
   ·rw [if_neg c4] at H
    have c4b0 : decide (x9_1 < (a0.size : Int)) = false := decide_eq_false c4
    clear c4
    by_cases c15 : x3_1.length < 8796093022208
    ·rw [if_pos c15] at H
     have LMc15 := Az.mk c15
     clear c15
     obtain ⟨y569, hy569⟩ : ∃ y_ : List ByteArray, y_ = (x3_1 ++ [x4_1]) := ⟨_, rfl⟩
     replace H : (some y569) = some r := by first | (rw [hy569]; with_reducible exact H) | (have H2_ := (Option.bind_some _ _).symm.trans H; rw [hy569]; with_reducible exact H2_) | (have H2_ := (Option.bind_some _ _).symm.trans H; with_reducible exact H2_) | with_reducible exact H | (rw [hy569]; exact H) | exact H
     have Ny569 := Az.mk hy569
     clear hy569
     obtain rfl := Option.some.inj H
     go_wp2_with (first | ((with_reducible refine gate_builtin (b := .append) (xs := #[.tmp 28, .tmp 30]) rfl ?_); at_builtin; refine Kd.R_append Kd.string (w0 := w) w.heap.size rfl (.tmp 28) (.tmp 30) 39 9 (.string ⟨#[]⟩) 16 rfl Tryz.underlying39 info9 rfl (by decide) (by omega) u3 x3_1 x4_1 [.string x4_1] (fun _ => True) (fun _ => False) rfl rfl ?aP (fun _ hk => hk.elim) ?aF ?aO ?aB ?aS ?aL ?_; (case aP => exact rfl); (case aB => exact (by repeat first|exact HB.out|apply bA|apply bN|apply bD)); (case aF => exact (fun _ _ => trivial)); (case aO => exact (by (with_reducible repeat first|apply Kd.Ra|apply Kd.Rn|apply Kd.Rw); exact HO_3.out)); (case aS => exact (bZ (by repeat first|exact HB.out|apply bA|apply bN|apply bD))); (case aL => have := LMc15.out; omega); intro v570 w16 ho hb hg hat; rw [← Ny569.out] at ho; have n0_ := Az.mk (hb); have n1_ := Az.mk (ho); clear HB; clear HO_3; have HB := n0_; have HO571 := n1_; clear n0_ n1_; clear ho hb hg hat))
     go_ret
     exact ⟨_, by first | rfl | (simp [errW_none, errW_some] <;> rfl) | (simp [*, errW_none, errW_some] <;> rfl), by (with_reducible repeat first|apply Kd.Ra|apply Kd.Rn|apply Kd.Rw); exact HO571.out, by repeat (first | (with_reducible first|exact HB.out|apply bA|apply bN|apply bD) | exact HB.out)⟩
    ·rw [if_neg c15] at H
     exact absurd H (by simp)
def laws_elSame.l0 : Nat → List Int → List Int → Int → Int → Option (Bool)
 | 0, _, _, _, _ => none
 | k + 1, x0, x1, x10, x11 => if x11 < x10 then (if 0 ≤ x11 then (if x11 < (x0.length : Int) then (if x11 < (x1.length : Int) then (if (rd x0 x11) = (rd x1 x11) then (laws_elSame.l0 k x0 x1 x10 (wrap64 (x11 + 1))) else (some false)) else (none)) else (none)) else (none)) else (some ((x0.length : Int) == (x1.length : Int)))
def laws_elSame.f (k : Nat) (l0 : List Int) (l1 : List Int) : Option (Bool) := laws_elSame.l0 k l0 l1 (mn (l0.length : Int) (l1.length : Int)) 0
set_option maxHeartbeats 8000000 in
set_option maxRecDepth 100000 in
theorem laws_elSame.calls (k : Nat) (A0 : Option Addr) (c0 : Nat) (l0 : List Int) (A1 : Option Addr) (c1 : Nat) (l1 : List Int) (r : Bool) (w : World) (hr0 : Kd.C (Kd.int .i64) w A0 l0.length l0) (hc0 : l0.length ≤ c0) (hr1 : Kd.C (Kd.int .i64) w A1 l1.length l1) (hc1 : l1.length ≤ c1) (h : laws_elSame.f k l0 l1 = some r) :
  Calls Tryz.prog 23 #[.slice A0 l0.length c0, .slice A1 l1.length c1] w fun e w' => e = .returned (.bool r) ∧ Below w.heap.size w w' := by
 have HR0 := Az.mk hr0
 have HC0 := Az.mk hc0
 clear hr0 hc0
 have HR1 := Az.mk hr1
 have HC1 := Az.mk hc1
 clear hr1 hc1
 have HB := Az.mk (Below.refl w.heap.size w)
 have H : (laws_elSame.l0 k l0 l1 (mn (l0.length : Int) (l1.length : Int)) 0) = some r := h
 clear h
 obtain ⟨ji3, hji3⟩ : ∃ j_ : Int, (mn (l0.length : Int) (l1.length : Int)) = j_ := ⟨_, rfl⟩
 replace H : (laws_elSame.l0 k l0 l1 ji3 0) = some r := by first | (rw [hji3] at H; exact H) | (simp only [hji3] at H ⊢; exact H)
 (try (have hji3l : 0 ≤ ji3 := by (rw [← hji3]; unfold mn; (repeat' split) <;> omega)))
 (try (have hji3m : 0 ≤ ji3 := by omega))
 have hji3_ : (if (l1.length : Int) < (l0.length : Int) then (l1.length : Int) else (l0.length : Int)) = ji3 := hji3
 clear hji3_
 by_cases hmn : l1.length < l0.length
 ·obtain rfl : (l1.length : Int) = ji3 := (by rw [← hji3]; unfold mn; (repeat' split) <;> omega)
  try clear hji3 hji3l hji3m
  have H' := Az.mk H
  clear H
  go_enter Tryz.func23, Tryz.ntmps23
  go_wp2
  repeat (go_quiet (fail); try go_wp2)
  go_loopg [11] k (fun kq v11 w' => ∃ (x11_1 : Int), v11 = .int .i64 x11_1 ∧ Az (laws_elSame.l0 kq l0 l1 (l1.length : Int) x11_1 = some r) ∧ Az (kq ≤ k) ∧ Az (Below w.heap.size w w'))
  case atStart => exact ⟨(0), (by first | rfl | (simp; done) | (simp [*]; done)), H', ⟨Nat.le_refl _⟩, ⟨by repeat (first | (with_reducible first|exact HB.out|apply bA|apply bN|apply bD) | exact HB.out)⟩⟩
  case round =>
   clear H'
   try clear c1
   try clear c2
   try clear p2
   obtain ⟨x11_1, rfl, HA, HK1, HB⟩ := hrel
   cases gk with
   | zero => exact absurd HA.out (by simp [laws_elSame.l0])
   | succ k1 =>
    have H := HA.out
    clear HA
    simp only [laws_elSame.l0] at H
    by_cases c4 : x11_1 < (l1.length : Int)
    ·rw [if_pos c4] at H
     have c4b0 : decide (x11_1 < (l1.length : Int)) = true := decide_eq_true c4
     clear c4
     by_cases c5 : 0 ≤ x11_1
     ·rw [if_pos c5] at H
      have c5b0 : decide (0 ≤ x11_1) = true := decide_eq_true c5
      clear c5
      by_cases c6 : x11_1 < (l0.length : Int)
      ·rw [if_pos c6] at H
       have c6b0 : decide (x11_1 < (l0.length : Int)) = true := decide_eq_true c6
       clear c6
       by_cases c7 : x11_1 < (l1.length : Int)
       ·rw [if_pos c7] at H
        have c7b0 : decide (x11_1 < (l1.length : Int)) = true := decide_eq_true c7
        clear c7
        by_cases c8 : (rd l0 x11_1) = (rd l1 x11_1)
        ·rw [if_pos c8] at H
         have c8b0 : ((rd l0 x11_1) == (rd l1 x11_1)) = true := beq_iff_eq.mpr c8
         have c8b1 : ((rd l0 x11_1) != (rd l1 x11_1)) = false := bne_eq_false_iff_eq.mpr c8
         clear c8
         have H' := Az.mk H
         clear H
         have p401 : 0 ≤ (x11_1 : Int) := of_decide_eq_true (by first|(with_reducible assumption)|assumption)
         have q401 : x11_1 < (l0.length : Int) := of_decide_eq_true (by first|(with_reducible assumption)|assumption)
         obtain ⟨ad401, e401, hx401_0⟩ := Kd.at_int HR0.out x11_1 p401 q401
         cases e401
         replace hx401_0 := (HB.out.cell (World.block_lt_of_cell? w _ hx401_0)).trans hx401_0
         replace p401 := eq_true p401
         replace q401 := eq_true q401
         have p402 : 0 ≤ (x11_1 : Int) := of_decide_eq_true (by first|(with_reducible assumption)|assumption)
         have q402 : x11_1 < (l1.length : Int) := of_decide_eq_true (by first|(with_reducible assumption)|assumption)
         obtain ⟨ad402, e402, hx402_0⟩ := Kd.at_int HR1.out x11_1 p402 q402
         cases e402
         replace hx402_0 := (HB.out.cell (World.block_lt_of_cell? w _ hx402_0)).trans hx402_0
         replace p402 := eq_true p402
         replace q402 := eq_true q402
         go_wp2
         repeat (go_quiet (fail); try go_wp2)
         go_roundg k1
         case measure => have := HK1.out; omega
         case rel => exact ⟨(wrap64 (x11_1 + 1)), (by first | rfl | (simp; done) | (simp [*]; done)), H', ⟨by have := HK1.out; omega⟩, ⟨by repeat (first | (with_reducible first|exact HB.out|apply bA|apply bN|apply bD) | exact HB.out)⟩⟩
        ·rw [if_neg c8] at H
         have c8b0 : ((rd l0 x11_1) == (rd l1 x11_1)) = false := beq_eq_false_iff_ne.mpr c8
         have c8b1 : ((rd l0 x11_1) != (rd l1 x11_1)) = true := bne_iff_ne.mpr c8
         obtain rfl := Option.some.inj H
         have p401 : 0 ≤ (x11_1 : Int) := of_decide_eq_true (by first|(with_reducible assumption)|assumption)
         have q401 : x11_1 < (l0.length : Int) := of_decide_eq_true (by first|(with_reducible assumption)|assumption)
         obtain ⟨ad401, e401, hx401_0⟩ := Kd.at_int HR0.out x11_1 p401 q401
         cases e401
         replace hx401_0 := (HB.out.cell (World.block_lt_of_cell? w _ hx401_0)).trans hx401_0
         replace p401 := eq_true p401
         replace q401 := eq_true q401
         have p402 : 0 ≤ (x11_1 : Int) := of_decide_eq_true (by first|(with_reducible assumption)|assumption)
         have q402 : x11_1 < (l1.length : Int) := of_decide_eq_true (by first|(with_reducible assumption)|assumption)
         obtain ⟨ad402, e402, hx402_0⟩ := Kd.at_int HR1.out x11_1 p402 q402
         cases e402
         replace hx402_0 := (HB.out.cell (World.block_lt_of_cell? w _ hx402_0)).trans hx402_0
         replace p402 := eq_true p402
         replace q402 := eq_true q402
         go_wp2
         repeat (go_quiet (fail); try go_wp2)
         go_ret
         exact ⟨by first | rfl | (simp [errW_none, errW_some] <;> rfl) | (skip; first | rfl | (simp [errW_none, errW_some] <;> rfl)) | (simp [*, errW_none, errW_some] <;> rfl), by repeat (first | (with_reducible first|exact HB.out|apply bA|apply bN|apply bD) | exact HB.out)⟩
       ·rw [if_neg c7] at H
        exact absurd H (by simp)
      ·rw [if_neg c6] at H
       exact absurd H (by simp)
     ·rw [if_neg c5] at H
      exact absurd H (by simp)
    ·rw [if_neg c4] at H
     have c4b0 : decide (x11_1 < (l1.length : Int)) = false := decide_eq_false c4
     clear c4
     obtain rfl := Option.some.inj H
     go_wp2
     repeat (go_quiet (fail); try go_wp2)
     go_ret
     exact ⟨by first | rfl | (simp [errW_none, errW_some] <;> rfl) | (skip; first | rfl | (simp [errW_none, errW_some] <;> rfl)) | (simp [*, errW_none, errW_some] <;> rfl), by repeat (first | (with_reducible first|exact HB.out|apply bA|apply bN|apply bD) | exact HB.out)⟩
 ·obtain rfl : (l0.length : Int) = ji3 := (by rw [← hji3]; unfold mn; (repeat' split) <;> omega)
  try clear hji3 hji3l hji3m
  have H' := Az.mk H
  clear H
  go_enter Tryz.func23, Tryz.ntmps23
  go_wp2
  repeat (go_quiet (fail); try go_wp2)
  go_loopg [11] k (fun kq v11 w' => ∃ (x11_1 : Int), v11 = .int .i64 x11_1 ∧ Az (laws_elSame.l0 kq l0 l1 (l0.length : Int) x11_1 = some r) ∧ Az (kq ≤ k) ∧ Az (Below w.heap.size w w'))
  case atStart => exact ⟨(0), (by first | rfl | (simp; done) | (simp [*]; done)), H', ⟨Nat.le_refl _⟩, ⟨by repeat (first | (with_reducible first|exact HB.out|apply bA|apply bN|apply bD) | exact HB.out)⟩⟩
  case round =>
   clear H'
   try clear c1
   try clear c2
   try clear p2
   obtain ⟨x11_1, rfl, HA, HK1, HB⟩ := hrel
   cases gk with
   | zero => exact absurd HA.out (by simp [laws_elSame.l0])
   | succ k1 =>
    have H := HA.out
    clear HA
    simp only [laws_elSame.l0] at H
    by_cases c4 : x11_1 < (l0.length : Int)
    ·rw [if_pos c4] at H
     have c4b0 : decide (x11_1 < (l0.length : Int)) = true := decide_eq_true c4
     clear c4
     by_cases c5 : 0 ≤ x11_1
     ·rw [if_pos c5] at H
      have c5b0 : decide (0 ≤ x11_1) = true := decide_eq_true c5
      clear c5
      by_cases c6 : x11_1 < (l0.length : Int)
      ·rw [if_pos c6] at H
       have c6b0 : decide (x11_1 < (l0.length : Int)) = true := decide_eq_true c6
       clear c6
       by_cases c7 : x11_1 < (l1.length : Int)
       ·rw [if_pos c7] at H
        have c7b0 : decide (x11_1 < (l1.length : Int)) = true := decide_eq_true c7
        clear c7
        by_cases c8 : (rd l0 x11_1) = (rd l1 x11_1)
        ·rw [if_pos c8] at H
         have c8b0 : ((rd l0 x11_1) == (rd l1 x11_1)) = true := beq_iff_eq.mpr c8
         have c8b1 : ((rd l0 x11_1) != (rd l1 x11_1)) = false := bne_eq_false_iff_eq.mpr c8
         clear c8
         have H' := Az.mk H
         clear H
         have p401 : 0 ≤ (x11_1 : Int) := of_decide_eq_true (by first|(with_reducible assumption)|assumption)
         have q401 : x11_1 < (l0.length : Int) := of_decide_eq_true (by first|(with_reducible assumption)|assumption)
         obtain ⟨ad401, e401, hx401_0⟩ := Kd.at_int HR0.out x11_1 p401 q401
         cases e401
         replace hx401_0 := (HB.out.cell (World.block_lt_of_cell? w _ hx401_0)).trans hx401_0
         replace p401 := eq_true p401
         replace q401 := eq_true q401
         have p402 : 0 ≤ (x11_1 : Int) := of_decide_eq_true (by first|(with_reducible assumption)|assumption)
         have q402 : x11_1 < (l1.length : Int) := of_decide_eq_true (by first|(with_reducible assumption)|assumption)
         obtain ⟨ad402, e402, hx402_0⟩ := Kd.at_int HR1.out x11_1 p402 q402
         cases e402
         replace hx402_0 := (HB.out.cell (World.block_lt_of_cell? w _ hx402_0)).trans hx402_0
         replace p402 := eq_true p402
         replace q402 := eq_true q402
         go_wp2
         repeat (go_quiet (fail); try go_wp2)
         go_roundg k1
         case measure => have := HK1.out; omega
         case rel => exact ⟨(wrap64 (x11_1 + 1)), (by first | rfl | (simp; done) | (simp [*]; done)), H', ⟨by have := HK1.out; omega⟩, ⟨by repeat (first | (with_reducible first|exact HB.out|apply bA|apply bN|apply bD) | exact HB.out)⟩⟩
        ·rw [if_neg c8] at H
         have c8b0 : ((rd l0 x11_1) == (rd l1 x11_1)) = false := beq_eq_false_iff_ne.mpr c8
         have c8b1 : ((rd l0 x11_1) != (rd l1 x11_1)) = true := bne_iff_ne.mpr c8
         obtain rfl := Option.some.inj H
         have p401 : 0 ≤ (x11_1 : Int) := of_decide_eq_true (by first|(with_reducible assumption)|assumption)
         have q401 : x11_1 < (l0.length : Int) := of_decide_eq_true (by first|(with_reducible assumption)|assumption)
         obtain ⟨ad401, e401, hx401_0⟩ := Kd.at_int HR0.out x11_1 p401 q401
         cases e401
         replace hx401_0 := (HB.out.cell (World.block_lt_of_cell? w _ hx401_0)).trans hx401_0
         replace p401 := eq_true p401
         replace q401 := eq_true q401
         have p402 : 0 ≤ (x11_1 : Int) := of_decide_eq_true (by first|(with_reducible assumption)|assumption)
         have q402 : x11_1 < (l1.length : Int) := of_decide_eq_true (by first|(with_reducible assumption)|assumption)
         obtain ⟨ad402, e402, hx402_0⟩ := Kd.at_int HR1.out x11_1 p402 q402
         cases e402
         replace hx402_0 := (HB.out.cell (World.block_lt_of_cell? w _ hx402_0)).trans hx402_0
         replace p402 := eq_true p402
         replace q402 := eq_true q402
         go_wp2
         repeat (go_quiet (fail); try go_wp2)
         go_ret
         exact ⟨by first | rfl | (simp [errW_none, errW_some] <;> rfl) | (skip; first | rfl | (simp [errW_none, errW_some] <;> rfl)) | (simp [*, errW_none, errW_some] <;> rfl), by repeat (first | (with_reducible first|exact HB.out|apply bA|apply bN|apply bD) | exact HB.out)⟩
       ·rw [if_neg c7] at H
        exact absurd H (by simp)
      ·rw [if_neg c6] at H
       exact absurd H (by simp)
     ·rw [if_neg c5] at H
      exact absurd H (by simp)
    ·rw [if_neg c4] at H
     have c4b0 : decide (x11_1 < (l0.length : Int)) = false := decide_eq_false c4
     clear c4
     obtain rfl := Option.some.inj H
     go_wp2
     repeat (go_quiet (fail); try go_wp2)
     go_ret
     exact ⟨by first | rfl | (simp [errW_none, errW_some] <;> rfl) | (skip; first | rfl | (simp [errW_none, errW_some] <;> rfl)) | (simp [*, errW_none, errW_some] <;> rfl), by repeat (first | (with_reducible first|exact HB.out|apply bA|apply bN|apply bD) | exact HB.out)⟩
end Go.Proofs.YtndjbnkmhpbnpaaGreatDoor.Pr
namespace Go.Proofs.YtndjbnkmhpbnpaaGreatDoor
set_option linter.unusedVariables false
set_option linter.unusedSimpArgs false
open Go.RowKit Pl
def DrawnT (w : World) (e : Ending) (w' : World) : Prop := ∃ t : ByteArray, t.size ≤ 900000 ∧ e = .returned (.string t) ∧ Below w.heap.size w w'
set_option maxHeartbeats 1000000 in
theorem drawReuses_any (w : World) (v : Value) (n : Nat) (xs : Nat → Int) (hv : BArg w v n xs) (hn : n ≤ 1048576) : Calls Tryz.prog 28 #[v] w (DrawnT w) := by
 go_enter Tryz.func28, Tryz.ntmps28
 go_wp2_with fail
 refine (open_any w v n xs hn hv).mono ?_
 rintro e w1 ⟨v1, n1, rfl, hd1, hb1⟩
 have HB1 := Lib.hid hb1
 have HD1 := Lib.hid hd1
 clear hb1 hd1
 go_wp2_with fail
 refine (anyev_any w1 w.heap.size v1 n1 xs 0 HD1.out (by omega)).mono ?_
 rintro e w2 ⟨t, q, h1, h2, h3, h4, rfl, hd2, hg2⟩
 have HB2 := Lib.hid (below_new HB1.out hg2)
 clear hd2 hg2
 go_wp2_with fail
 go_ret
 exact ⟨t, by omega, rfl, HB2.out⟩
end Go.Proofs.YtndjbnkmhpbnpaaGreatDoor
