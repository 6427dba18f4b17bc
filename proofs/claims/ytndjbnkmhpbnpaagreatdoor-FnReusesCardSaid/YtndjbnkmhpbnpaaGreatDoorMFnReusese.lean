/- MFnReusese: texts of this proof, joined. -/
import Derived.Test.YtndjbnkmhpbnpaaGreatDoorCa
import Derived.Test.YtndjbnkmhpbnpaaGreatDoorCb
import Derived.Test.YtndjbnkmhpbnpaaGreatDoorCc
import Derived.Test.YtndjbnkmhpbnpaaGreatDoorCd
import Derived.Test.YtndjbnkmhpbnpaaGreatDoorCe
import Derived.Test.YtndjbnkmhpbnpaaGreatDoorCf
import Derived.Test.YtndjbnkmhpbnpaaGreatDoorCg
import Derived.Test.YtndjbnkmhpbnpaaGreatDoorCh
import Derived.Test.YtndjbnkmhpbnpaaGreatDoorCi
import Derived.Test.YtndjbnkmhpbnpaaGreatDoorCj
import Derived.Test.YtndjbnkmhpbnpaaGreatDoorCk
import Derived.Test.YtndjbnkmhpbnpaaGreatDoorCl
import Derived.Test.YtndjbnkmhpbnpaaGreatDoorMFnReusesa
import Derived.Test.YtndjbnkmhpbnpaaGreatDoorMFnReusesb
import Derived.Test.YtndjbnkmhpbnpaaGreatDoorMFnReusesc
import Derived.Test.YtndjbnkmhpbnpaaGreatDoorMFnReusesd
import Derived.Deep.RegionWith
import Derived.RegionTactic
import Derived.Handy
import Derived.Outline
import Derived.Deep.DeepCutAuto
import Derived.Deep.CutBlock
import Derived.Deep.QuietTactic
import Derived.BigQuiet
import Derived.BigCall
import Derived.BigRegion
namespace Go.Proofs.YtndjbnkmhpbnpaaGreatDoor.Pr
open Go.RowKit Go.Proofs.YtndjbnkmhpbnpaaGreatDoorW.PrintWords Go.Proofs.YtndjbnkmhpbnpaaGreatDoorW.PrintLast Go.Proofs.YtndjbnkmhpbnpaaGreatDoorW.PrintMore
attribute [local go_sem] max2_int min2_int max_two min_two max_three min_three max_four min_four   -- for this text's walks alone
set_option linter.unusedVariables false
set_option linter.unusedSimpArgs false
mutual
def impl_CellsText.l0 : Nat → List Int → Int → List ByteArray → List (S31) → Int → Int → Option (ByteArray × Bool)
 | 0, _, _, _, _, _, _ => none
 | k + 1, x4, x5, x10, x11, x35, x36 => if x36 < x35 then ((slices_Repeat_string_string.f (([(⟨#[46]⟩ : ByteArray)] : List ByteArray)) x5).bind fun t521 => ((impl_alive.f k x11 x36).bind fun t524 => (impl_CellsText.l1 k x4 x5 x10 x11 t521 x35 x36 t524 (t524.length : Int) 0))) else (if (x10.length : Int) = 0 then (some ((⟨#[45]⟩ : ByteArray), true)) else ((strings_Join.f x10 (⟨#[59]⟩ : ByteArray)).bind fun t517 => (some (t517, true))))
def impl_CellsText.l1 : Nat → List Int → Int → List ByteArray → List (S31) → List ByteArray → Int → Int → List Int → Int → Int → Option (ByteArray × Bool)
 | 0, _, _, _, _, _, _, _, _, _, _ => none
 | k + 1, x4, x5, x10, x11, x13, x35, x36, x44, x45, x46 => if x46 < x45 then (if 0 ≤ x46 then (if x46 < (x44.length : Int) then (if 0 ≤ (wrap64 ((rd x44 x46) - 1)) then (if (wrap64 ((rd x44 x46) - 1)) < (x4.length : Int) then ((strconv_Itoa.f (rd x44 x46)).bind fun t529 => (if 0 ≤ (rd x4 (wrap64 ((rd x44 x46) - 1))) then (if (rd x4 (wrap64 ((rd x44 x46) - 1))) < (x13.length : Int) then (impl_CellsText.l1 k x4 x5 x10 x11 (x13.set ((rd x4 (wrap64 ((rd x44 x46) - 1))) : Int).toNat t529) x35 x36 x44 x45 (wrap64 (x46 + 1))) else (none)) else (none))) else (none)) else (none)) else (none)) else (none)) else ((strings_Join.f x13 (⟨#[32]⟩ : ByteArray)).bind fun t531 => (if x10.length < 8796093022208 then (impl_CellsText.l0 k x4 x5 (x10 ++ [t531]) x11 x35 (wrap64 (x36 + 1))) else (none)))
end
def impl_CellsText.f (k : Nat) (a0 : ByteArray) : Option (ByteArray × Bool) := (impl_kept.f a0).bind fun bt501 => (if bt501.2.2 = true then ((impl_told.f a0).bind fun bt506 => ((impl_lives.f bt506.1 bt506.2.1).bind fun t514 => (impl_CellsText.l0 k bt501.1 bt501.2.1 (([] : List ByteArray)) t514 (bt506.1.length : Int) 0))) else (some ((⟨#[]⟩ : ByteArray), false)))
def impl_CellsText.T13 : Bool × List (List Nat × List Nat) := (true, [([], []), ([], []), ([], []), ([2], [2]), ([1, 3], [1, 3]), ([4], [4]), ([], []), ([6], [6]), ([0, 5, 0, 1, 2, 3, 4, 5, 6, 7], [0, 5]), ([8, 7, 7, 0, 1, 2, 3, 4, 5, 6, 7], [7, 8])])
def impl_CellsText.B13 : List Nat := [0, 0, 0, 4, 14, 30, 0, 64, 255, 511]
theorem impl_CellsText.tab13 : rtab .any (opsOf Tryz.f31 13) = impl_CellsText.T13 := by kernel_rfl
theorem impl_CellsText.bits13 : waitsOk impl_CellsText.T13.2 impl_CellsText.B13 = true := by kernel_rfl
set_option maxHeartbeats 8000000 in
set_option maxRecDepth 100000 in
theorem impl_CellsText.calls (k : Nat) (a0 : ByteArray) (r1 : ByteArray) (r2 : Bool) (w : World) (hLd : LaidW w) (h : impl_CellsText.f k a0 = some (r1, r2)) :
  Calls Tryz.prog 31 #[.string a0] w fun e w' => e = .returned (.tuple #[.string r1, .bool r2]) ∧ Below w.heap.size w w' := by
 have HB := Az.mk (Below.refl w.heap.size w)
 have HLd := Az.mk hLd
 clear hLd
 have H : ((impl_kept.f a0).bind fun bt501 => (if bt501.2.2 = true then ((impl_told.f a0).bind fun bt506 => ((impl_lives.f bt506.1 bt506.2.1).bind fun t514 => (impl_CellsText.l0 k bt501.1 bt501.2.1 (([] : List ByteArray)) t514 (bt506.1.length : Int) 0))) else (some ((⟨#[]⟩ : ByteArray), false)))) = some (r1, r2) := h
 clear h
 replace H := Option.bind_eq_some_iff.mp H
 obtain ⟨⟨t501, t502, t503⟩, A20, H⟩ := H
 replace H : (if t503 = true then ((impl_told.f a0).bind fun bt506 => ((impl_lives.f bt506.1 bt506.2.1).bind fun t514 => (impl_CellsText.l0 k t501 t502 (([] : List ByteArray)) t514 (bt506.1.length : Int) 0))) else (some ((⟨#[]⟩ : ByteArray), false))) = some (r1, r2) := H
 have A2 := Az.mk A20
 clear A20
 by_cases c3 : t503 = true
 ·subst c3
  have H1 : ((impl_told.f a0).bind fun bt506 => ((impl_lives.f bt506.1 bt506.2.1).bind fun t514 => (impl_CellsText.l0 k t501 t502 (([] : List ByteArray)) t514 (bt506.1.length : Int) 0))) = some (r1, r2) := by rw [if_pos rfl] at H; exact H
  clear H
  have H := H1
  clear H1
  replace H := Option.bind_eq_some_iff.mp H
  obtain ⟨⟨t506, t507, t508⟩, A40, H⟩ := H
  replace H : ((impl_lives.f t506 t507).bind fun t514 => (impl_CellsText.l0 k t501 t502 (([] : List ByteArray)) t514 (t506.length : Int) 0)) = some (r1, r2) := H
  have A4 := Az.mk A40
  clear A40
  obtain ⟨y511, hy511⟩ : ∃ y_ : List ByteArray, y_ = (([] : List ByteArray)) := ⟨_, rfl⟩
  replace H : ((impl_lives.f t506 t507).bind fun t514 => (impl_CellsText.l0 k t501 t502 y511 t514 (t506.length : Int) 0)) = some (r1, r2) := by first | (rw [hy511]; with_reducible exact H) | (have H2_ := (Option.bind_some _ _).symm.trans H; rw [hy511]; with_reducible exact H2_) | (have H2_ := (Option.bind_some _ _).symm.trans H; with_reducible exact H2_) | with_reducible exact H | (rw [hy511]; exact H) | exact H
  have Ny511 := Az.mk hy511
  clear hy511
  replace H := Option.bind_eq_some_iff.mp H
  obtain ⟨t514, A50, H⟩ := H
  replace H : (impl_CellsText.l0 k t501 t502 y511 t514 (t506.length : Int) 0) = some (r1, r2) := H
  have A5 := Az.mk A50
  clear A50
  have H' := Az.mk H
  clear H
  go_enter Tryz.func31, Tryz.ntmps31
  go_wp2_with (first | ((with_reducible refine gate_callee (f := 58) rfl ?_); refine goesL_ (some 18) rfl rfl Tryz.func58 (by kernel_rfl) rfl #[.string a0, .func (.func 59) #[] #[]] rfl (by (try simp only [List.map_toArray, List.map_cons, List.map_nil]); first | done | rfl | (simp only [List.length_drop, List.length_take]; rfl)) ?_; (with_reducible refine (impl_kept.calls a0 t501 t502 true _ (HLd.out.below (by repeat first|exact HB.out|apply bA|apply bN|apply bD)) A2.out).mono ?_); rintro e w6 ⟨v504, rfl, ho0, hb⟩; refine ⟨_, rfl, ?_⟩; have n0_ := Az.mk (Kd.R_lower ho0 (bZ (by repeat first|exact HB.out|apply bA|apply bN|apply bD))); have n1_ := Az.mk (bS (by repeat first|exact HB.out|apply bA|apply bN|apply bD) hb); clear HB; have HO505 := n0_; have HB := n1_; clear n0_ n1_; (try clear hb); (try clear hb2); (try clear hk); (try clear hi); (try clear ho0)) | ((with_reducible refine gate_callee (f := 50) rfl ?_); refine goesL_ (some 26) rfl rfl Tryz.func50 (by kernel_rfl) rfl #[.string a0] rfl (by (try simp only [List.map_toArray, List.map_cons, List.map_nil]); first | done | rfl | (simp only [List.length_drop, List.length_take]; rfl)) ?_; (with_reducible refine (impl_told.calls a0 t506 t507 t508 _ (HLd.out.below (by repeat first|exact HB.out|apply bA|apply bN|apply bD)) A4.out).mono ?_); rintro e w7 ⟨v509, rfl, ho0, hb⟩; refine ⟨_, rfl, ?_⟩; have n0_ := Az.mk (Kd.Rb (by (with_reducible repeat first|apply Kd.Ra|apply Kd.Rn|apply Kd.Rw); exact HO505.out) hb); have n1_ := Az.mk (Kd.R_lower ho0 (bZ (by repeat first|exact HB.out|apply bA|apply bN|apply bD))); have n2_ := Az.mk (bS (by repeat first|exact HB.out|apply bA|apply bN|apply bD) hb); clear HO505; clear HB; have HO505 := n0_; have HO510 := n1_; have HB := n2_; clear n0_ n1_ n2_; (try clear hb); (try clear hb2); (try clear hk); (try clear hi); (try clear ho0)) | ((with_reducible refine gate_dst (N := 30) rfl ?_); refine Kd.R_lit Kd.string _ 9 ?hg (N := 30) ?hd (xs := ([] : List ByteArray)) (inner := []) (ok := fun _ => True) (okp := fun _ => True) ?hr ?hp (fun _ hk => hk) trivial (Below.refl _ _) (Nat.le_refl _) (by simp) ?_; (case hd => rfl); (case hg => rfl); (case hr => first | (go_simp; done) | (go_simp; rfl)); (case hp => exact (Reps.none _ _)); intro v512 w8 ho9 hb hg_ hnew_; clear hg_ hnew_; (first | rw [← Ny511.out] at ho9 | (simp only [Int.reduceToNat] at ho9; rw [← Ny511.out] at ho9)); have n0_ := Az.mk (Kd.Rb (by (with_reducible repeat first|apply Kd.Ra|apply Kd.Rn|apply Kd.Rw); exact HO505.out) hb); have n1_ := Az.mk (Kd.Rb (by (with_reducible repeat first|apply Kd.Ra|apply Kd.Rn|apply Kd.Rw); exact HO510.out) hb); have n2_ := Az.mk (Kd.R_lower ho9 (bZ (by repeat first|exact HB.out|apply bA|apply bN|apply bD))); have n3_ := Az.mk (bS (by repeat first|exact HB.out|apply bA|apply bN|apply bD) hb); clear HO505; clear HO510; clear HB; have HO505 := n0_; have HO510 := n1_; have HO513 := n2_; have HB := n3_; clear n0_ n1_ n2_ n3_; clear hb ho9; obtain ⟨Ao10, co10, eo10⟩ := Kd.R_slice HO510.out; subst eo10) | ((with_reducible refine gate_callee (f := 51) rfl ?_); refine goesL_ (some 33) rfl rfl Tryz.func51 (by kernel_rfl) rfl #[.slice Ao10 t506.length co10, .int .i64 t507] rfl (by (try simp only [List.map_toArray, List.map_cons, List.map_nil]); first | done | rfl | (simp only [List.length_drop, List.length_take]; rfl)) ?_; (with_reducible refine (impl_lives.calls _ _ t506 t507 t514 _ ?side1 ?side2 A5.out).mono ?_); (case side1 => repeat (first | exact (Kd.R_reads' HO510.out).2.2 | (with_reducible refine Kd.C_alloc ?_ _) | (with_reducible refine Kd.C_drewN ?_ _) | (with_reducible refine Kd.C_drew ?_))); (case side2 => exact (Kd.R_reads' HO510.out).2.1); rintro e w11 ⟨v515, rfl, ho0, hb⟩; refine ⟨_, rfl, ?_⟩; have n0_ := Az.mk (Kd.Rb (by (with_reducible repeat first|apply Kd.Ra|apply Kd.Rn|apply Kd.Rw); exact HO505.out) hb); have n1_ := Az.mk (Kd.Rb (by (with_reducible repeat first|apply Kd.Ra|apply Kd.Rn|apply Kd.Rw); exact HO510.out) hb); have n2_ := Az.mk (Kd.Rb (by (with_reducible repeat first|apply Kd.Ra|apply Kd.Rn|apply Kd.Rw); exact HO513.out) hb); have n3_ := Az.mk (Kd.R_lower ho0 (bZ (by repeat first|exact HB.out|apply bA|apply bN|apply bD))); have n4_ := Az.mk (bS (by repeat first|exact HB.out|apply bA|apply bN|apply bD) hb); clear HO505; clear HO510; clear HO513; clear HB; have HO505 := n0_; have HO510 := n1_; have HO513 := n2_; have HO516 := n3_; have HB := n4_; clear n0_ n1_ n2_ n3_ n4_; (try clear hb); (try clear hb2); (try clear hk); (try clear hi); (try clear ho0)))
  go_loopg [10, 36] k (fun kq v10 v36 w' => ∃ (x10_1 : List ByteArray) (x36_1 : Int), v36 = .int .i64 x36_1 ∧ Az (impl_CellsText.l0 kq t501 t502 x10_1 t514 (t506.length : Int) x36_1 = some (r1, r2)) ∧ Az (kq ≤ k) ∧ Az (Kd.R (Kd.int .i64) 3 w' w.heap.size (fun _ => True) v504 t501) ∧ Az (Kd.R Kd.string 9 w' w.heap.size (fun _ => True) v10 x10_1) ∧ Az (Kd.R k31 31 w' w.heap.size (fun _ => True) v515 t514) ∧ Az (Below w.heap.size w w'))
  case atStart => exact ⟨(y511), (0), (by first | rfl | (simp; done) | (simp [*]; done)), H', ⟨Nat.le_refl _⟩, ⟨by (with_reducible repeat first|apply Kd.Ra|apply Kd.Rn|apply Kd.Rw); exact HO505.out⟩, ⟨by (with_reducible repeat first|apply Kd.Ra|apply Kd.Rn|apply Kd.Rw); exact HO513.out⟩, ⟨by (with_reducible repeat first|apply Kd.Ra|apply Kd.Rn|apply Kd.Rw); exact HO516.out⟩, ⟨by repeat (first | (with_reducible first|exact HB.out|apply bA|apply bN|apply bD) | exact HB.out)⟩⟩
  case round =>
   clear H'
   try clear p2
   try clear c3
   try clear c5
   obtain ⟨x10_1, x36_1, rfl, HA, HK1, HO_4, HO_10, HO_11, HB⟩ := hrel
   cases gk with
   | zero => exact absurd HA.out (by simp [impl_CellsText.l0])
   | succ k1 =>
    have H := HA.out
    clear HA
    simp only [impl_CellsText.l0] at H
    by_cases c12 : x36_1 < (t506.length : Int)
    ·rw [if_pos c12] at H
     have c12b0 : decide (x36_1 < (t506.length : Int)) = true := decide_eq_true c12
     clear c12
     obtain ⟨y518, hy518⟩ : ∃ y_ : List ByteArray, y_ = (([(⟨#[46]⟩ : ByteArray)] : List ByteArray)) := ⟨_, rfl⟩
     replace H : ((slices_Repeat_string_string.f y518 t502).bind fun t521 => ((impl_alive.f k1 t514 x36_1).bind fun t524 => (impl_CellsText.l1 k1 t501 t502 x10_1 t514 t521 (t506.length : Int) x36_1 t524 (t524.length : Int) 0))) = some (r1, r2) := by first | (rw [hy518]; with_reducible exact H) | (have H2_ := (Option.bind_some _ _).symm.trans H; rw [hy518]; with_reducible exact H2_) | (have H2_ := (Option.bind_some _ _).symm.trans H; with_reducible exact H2_) | with_reducible exact H | (rw [hy518]; exact H) | exact H
     have Ny518 := Az.mk hy518
     clear hy518
     replace H := Option.bind_eq_some_iff.mp H
     obtain ⟨t521, A130, H⟩ := H
     replace H : ((impl_alive.f k1 t514 x36_1).bind fun t524 => (impl_CellsText.l1 k1 t501 t502 x10_1 t514 t521 (t506.length : Int) x36_1 t524 (t524.length : Int) 0)) = some (r1, r2) := H
     have A13 := Az.mk A130
     clear A130
     replace H := Option.bind_eq_some_iff.mp H
     obtain ⟨t524, A140, H⟩ := H
     replace H : (impl_CellsText.l1 k1 t501 t502 x10_1 t514 t521 (t506.length : Int) x36_1 t524 (t524.length : Int) 0) = some (r1, r2) := H
     have A14 := Az.mk A140
     clear A140
     have H' := Az.mk H
     clear H
     go_wp2_with (first | ((with_reducible refine gate_dst (N := 39) rfl ?_); refine Kd.R_lit Kd.string _ 9 ?hg (N := 39) ?hd (xs := ([(⟨#[46]⟩ : ByteArray)] : List ByteArray)) (inner := [.string (⟨#[46]⟩ : ByteArray)]) (ok := fun _ => True) (okp := fun _ => True) ?hr ?hp (fun _ hk => hk) trivial (Below.refl _ _) (Nat.le_refl _) (by simp) ?_; (case hd => rfl); (case hg => rfl); (case hr => first | (go_simp; done) | (go_simp; rfl)); (case hp => exact (Reps.one (show Kd.M Kd.string _ _ _ (⟨#[46]⟩ : ByteArray) [.string (⟨#[46]⟩ : ByteArray)] from rfl) (Reps.none _ _))); intro v519 w15 ho16 hb hg_ hnew_; clear hg_ hnew_; (first | rw [← Ny518.out] at ho16 | (simp only [Int.reduceToNat] at ho16; rw [← Ny518.out] at ho16)); have n0_ := Az.mk (Kd.Rb (by (with_reducible repeat first|apply Kd.Ra|apply Kd.Rn|apply Kd.Rw); exact HO_4.out) hb); have n1_ := Az.mk (Kd.R_elder' (by (with_reducible repeat first|apply Kd.Ra|apply Kd.Rn|apply Kd.Rw); exact HO_10.out) (Kd.R_base ho16) hb); have n2_ := Az.mk (Kd.Rb (by (with_reducible repeat first|apply Kd.Ra|apply Kd.Rn|apply Kd.Rw); exact HO_11.out) hb); have n3_ := Az.mk (Kd.R_lower (Kd.R_new' ho16 (Kd.R_lt (by (with_reducible repeat first|apply Kd.Ra|apply Kd.Rn|apply Kd.Rw); exact HO_10.out))) (bZ (by repeat first|exact HB.out|apply bA|apply bN|apply bD))); have n4_ := Az.mk (bS (by repeat first|exact HB.out|apply bA|apply bN|apply bD) hb); clear HO_4; clear HO_10; clear HO_11; clear HB; have HO_4 := n0_; have HO_10 := n1_; have HO_11 := n2_; have HO520 := n3_; have HB := n4_; clear n0_ n1_ n2_ n3_ n4_; clear hb ho16; obtain ⟨Ao17, co17, eo17⟩ := Kd.R_slice HO520.out; subst eo17) | ((with_reducible refine gate_callee (f := 64) rfl ?_); refine goesL_ (some 41) rfl rfl Tryz.func64 (by kernel_rfl) rfl #[.slice Ao17 y518.length co17, .int .i64 t502] rfl (by (try simp only [List.map_toArray, List.map_cons, List.map_nil]); first | done | rfl | (simp only [List.length_drop, List.length_take]; rfl)) ?_; (with_reducible refine (slices_Repeat_string_string.calls _ _ y518 t502 t521 _ ?side1 ?side2 A13.out).mono ?_); (case side1 => repeat (first | exact (Kd.R_reads' HO520.out).2.2 | (with_reducible refine Kd.C_alloc ?_ _) | (with_reducible refine Kd.C_drewN ?_ _) | (with_reducible refine Kd.C_drew ?_))); (case side2 => exact (Kd.R_reads' HO520.out).2.1); rintro e w18 ⟨v522, rfl, ho0, hb⟩; refine ⟨_, rfl, ?_⟩; have n0_ := Az.mk (Kd.Rb (by (with_reducible repeat first|apply Kd.Ra|apply Kd.Rn|apply Kd.Rw); exact HO_4.out) hb); have n1_ := Az.mk (Kd.R_elder' (by (with_reducible repeat first|apply Kd.Ra|apply Kd.Rn|apply Kd.Rw); exact HO_10.out) (Kd.R_base ho0) hb); have n2_ := Az.mk (Kd.Rb (by (with_reducible repeat first|apply Kd.Ra|apply Kd.Rn|apply Kd.Rw); exact HO_11.out) hb); have n3_ := Az.mk (Kd.R_elder' (by (with_reducible repeat first|apply Kd.Ra|apply Kd.Rn|apply Kd.Rw); exact HO520.out) (Kd.R_base ho0) hb); have n4_ := Az.mk (Kd.R_lower (Kd.R_new' (Kd.R_new' ho0 (Kd.R_lt (by (with_reducible repeat first|apply Kd.Ra|apply Kd.Rn|apply Kd.Rw); exact HO_10.out))) (Kd.R_lt (by (with_reducible repeat first|apply Kd.Ra|apply Kd.Rn|apply Kd.Rw); exact HO520.out))) (bZ (by repeat first|exact HB.out|apply bA|apply bN|apply bD))); have n5_ := Az.mk (bS (by repeat first|exact HB.out|apply bA|apply bN|apply bD) hb); clear HO_4; clear HO_10; clear HO_11; clear HO520; clear HB; have HO_4 := n0_; have HO_10 := n1_; have HO_11 := n2_; have HO520 := n3_; have HO523 := n4_; have HB := n5_; clear n0_ n1_ n2_ n3_ n4_ n5_; (try clear hb); (try clear hb2); (try clear hk); (try clear hi); (try clear ho0); obtain ⟨Ao19, co19, eo19⟩ := Kd.R_slice HO_11.out; subst eo19) | ((with_reducible refine gate_callee (f := 57) rfl ?_); refine goesL_ (some 44) rfl rfl Tryz.func57 (by kernel_rfl) rfl #[.slice Ao19 t514.length co19, .int .i64 x36_1] rfl (by (try simp only [List.map_toArray, List.map_cons, List.map_nil]); first | done | rfl | (simp only [List.length_drop, List.length_take]; rfl)) ?_; (with_reducible refine (impl_alive.calls k1 _ _ t514 x36_1 t524 _ ?side1 ?side2 A14.out).mono ?_); (case side1 => repeat (first | exact (Kd.R_reads' HO_11.out).2.2 | (with_reducible refine Kd.C_alloc ?_ _) | (with_reducible refine Kd.C_drewN ?_ _) | (with_reducible refine Kd.C_drew ?_))); (case side2 => exact (Kd.R_reads' HO_11.out).2.1); rintro e w20 ⟨v525, rfl, ho0, hb⟩; refine ⟨_, rfl, ?_⟩; have n0_ := Az.mk (Kd.R_elder' (by (with_reducible repeat first|apply Kd.Ra|apply Kd.Rn|apply Kd.Rw); exact HO_4.out) (Kd.R_base ho0) hb); have n1_ := Az.mk (Kd.Rb (by (with_reducible repeat first|apply Kd.Ra|apply Kd.Rn|apply Kd.Rw); exact HO_10.out) hb); have n2_ := Az.mk (Kd.Rb (by (with_reducible repeat first|apply Kd.Ra|apply Kd.Rn|apply Kd.Rw); exact HO_11.out) hb); have n3_ := Az.mk (Kd.Rb (by (with_reducible repeat first|apply Kd.Ra|apply Kd.Rn|apply Kd.Rw); exact HO520.out) hb); have n4_ := Az.mk (Kd.Rb (by (with_reducible repeat first|apply Kd.Ra|apply Kd.Rn|apply Kd.Rw); exact HO523.out) hb); have n5_ := Az.mk (Kd.R_lower (Kd.R_new' ho0 (Kd.R_lt (by (with_reducible repeat first|apply Kd.Ra|apply Kd.Rn|apply Kd.Rw); exact HO_4.out))) (bZ (by repeat first|exact HB.out|apply bA|apply bN|apply bD))); have n6_ := Az.mk (bS (by repeat first|exact HB.out|apply bA|apply bN|apply bD) hb); clear HO_4; clear HO_10; clear HO_11; clear HO520; clear HO523; clear HB; have HO_4 := n0_; have HO_10 := n1_; have HO_11 := n2_; have HO520 := n3_; have HO523 := n4_; have HO526 := n5_; have HB := n6_; clear n0_ n1_ n2_ n3_ n4_ n5_ n6_; (try clear hb); (try clear hb2); (try clear hk); (try clear hi); (try clear ho0); obtain ⟨Ao21, co21, eo21⟩ := Kd.R_slice HO526.out; subst eo21))
     go_loopg [46] k1 (fun kq v46 w' => ∃ (x13_2 : List ByteArray) (x46_2 : Int), v46 = .int .i64 x46_2 ∧ Az (impl_CellsText.l1 kq t501 t502 x10_1 t514 x13_2 (t506.length : Int) x36_1 t524 (t524.length : Int) x46_2 = some (r1, r2)) ∧ Az (kq ≤ k1) ∧ Az (Kd.R (Kd.int .i64) 3 w' w.heap.size (fun k_ => some k_ ≠ ((.slice Ao21 t524.length co21) : Value).ownBlock) v504 t501) ∧ Az (Kd.R Kd.string 9 w' w.heap.size (fun k_ => some k_ ≠ (v522 : Value).ownBlock) u10 x10_1) ∧ Az (Kd.R k31 31 w' w.heap.size (fun _ => True) (.slice Ao19 t514.length co19) t514) ∧ Az (Kd.R Kd.string 9 w' w.heap.size (fun k_ => some k_ ≠ (u10 : Value).ownBlock) v522 x13_2) ∧ Az (Kd.R (Kd.int .i64) 3 w' w.heap.size (fun k_ => some k_ ≠ (v504 : Value).ownBlock) (.slice Ao21 t524.length co21) t524) ∧ Az (Below w.heap.size w w'))
     case atStart => exact ⟨(t521), (0), (by first | rfl | (simp; done) | (simp [*]; done)), H', ⟨Nat.le_refl _⟩, ⟨by (with_reducible repeat first|apply Kd.Ra|apply Kd.Rn|apply Kd.Rw); exact Kd.R_mono HO_4.out (fun _ hk => hk.2)⟩, ⟨by (with_reducible repeat first|apply Kd.Ra|apply Kd.Rn|apply Kd.Rw); exact Kd.R_mono HO_10.out (fun _ hk => hk.2)⟩, ⟨by (with_reducible repeat first|apply Kd.Ra|apply Kd.Rn|apply Kd.Rw); exact HO_11.out⟩, ⟨by (with_reducible repeat first|apply Kd.Ra|apply Kd.Rn|apply Kd.Rw); exact Kd.R_mono HO523.out (fun _ hk => hk.1.2)⟩, ⟨by (with_reducible repeat first|apply Kd.Ra|apply Kd.Rn|apply Kd.Rw); exact Kd.R_mono HO526.out (fun _ hk => hk.2)⟩, ⟨by repeat (first | (with_reducible first|exact HB.out|apply bA|apply bN|apply bD) | exact HB.out)⟩⟩
     case round =>
      clear H'
      try clear c1
      try clear p2
      try clear c3
      try clear c5
      try clear c6
      try clear c12
      try clear c12b0
      try clear p2
      obtain ⟨x13_2, x46_2, rfl, HA, HK2, HO_4, HO_10, HO_11, HO_13, HO_44, HB⟩ := hrel
      cases gk with
      | zero => exact absurd HA.out (by simp [impl_CellsText.l1])
      | succ k2 =>
       have H := HA.out
       clear HA
       simp only [impl_CellsText.l1] at H
       by_cases c22 : x46_2 < (t524.length : Int)
       ·rw [if_pos c22] at H
        have c22b0 : decide (x46_2 < (t524.length : Int)) = true := decide_eq_true c22
        clear c22
        by_cases c23 : 0 ≤ x46_2
        ·rw [if_pos c23] at H
         have c23b0 : decide (0 ≤ x46_2) = true := decide_eq_true c23
         clear c23
         by_cases c24 : x46_2 < (t524.length : Int)
         ·rw [if_pos c24] at H
          have c24b0 : decide (x46_2 < (t524.length : Int)) = true := decide_eq_true c24
          clear c24
          obtain ⟨ji25, hji25⟩ : ∃ j_ : Int, (wrap64 ((rd t524 x46_2) - 1)) = j_ := ⟨_, rfl⟩
          replace H : (if 0 ≤ (ji25) then (if (ji25) < (t501.length : Int) then ((strconv_Itoa.f (rd t524 x46_2)).bind fun t529 => (if 0 ≤ (rd t501 (ji25)) then (if (rd t501 (ji25)) < (x13_2.length : Int) then (impl_CellsText.l1 k2 t501 t502 x10_1 t514 (x13_2.set ((rd t501 (ji25)) : Int).toNat t529) (t506.length : Int) x36_1 t524 (t524.length : Int) (wrap64 (x46_2 + 1))) else (none)) else (none))) else (none)) else (none)) = some (r1, r2) := by first | (rw [hji25] at H; exact H) | (simp only [hji25] at H ⊢; exact H)
          have hji25w : (IntKind.i64.wrap ((rd t524 x46_2) - 1)) = ji25 := (i64_w _).trans hji25
          by_cases c26 : 0 ≤ (ji25)
          ·rw [if_pos c26] at H
           have c26b0 : decide (0 ≤ (ji25)) = true := decide_eq_true c26
           clear c26
           by_cases c27 : (ji25) < (t501.length : Int)
           ·rw [if_pos c27] at H
            have c27b0 : decide ((ji25) < (t501.length : Int)) = true := decide_eq_true c27
            clear c27
            replace H := Option.bind_eq_some_iff.mp H
            obtain ⟨t529, A280, H⟩ := H
            replace H : (if 0 ≤ (rd t501 (ji25)) then (if (rd t501 (ji25)) < (x13_2.length : Int) then (impl_CellsText.l1 k2 t501 t502 x10_1 t514 (x13_2.set ((rd t501 (ji25)) : Int).toNat t529) (t506.length : Int) x36_1 t524 (t524.length : Int) (wrap64 (x46_2 + 1))) else (none)) else (none)) = some (r1, r2) := H
            have A28 := Az.mk A280
            clear A280
            by_cases c29 : 0 ≤ (rd t501 (ji25))
            ·rw [if_pos c29] at H
             have c29b0 : decide (0 ≤ (rd t501 (ji25))) = true := decide_eq_true c29
             clear c29
             by_cases c30 : (rd t501 (ji25)) < (x13_2.length : Int)
             ·rw [if_pos c30] at H
              have c30b0 : decide ((rd t501 (ji25)) < (x13_2.length : Int)) = true := decide_eq_true c30
              clear c30
              obtain ⟨y530, hy530⟩ : ∃ y_ : List ByteArray, y_ = (x13_2.set ((rd t501 (ji25)) : Int).toNat t529) := ⟨_, rfl⟩
              replace H : (impl_CellsText.l1 k2 t501 t502 x10_1 t514 y530 (t506.length : Int) x36_1 t524 (t524.length : Int) (wrap64 (x46_2 + 1))) = some (r1, r2) := by first | (rw [hy530]; with_reducible exact H) | (have H2_ := (Option.bind_some _ _).symm.trans H; rw [hy530]; with_reducible exact H2_) | (have H2_ := (Option.bind_some _ _).symm.trans H; with_reducible exact H2_) | with_reducible exact H | (rw [hy530]; exact H) | exact H
              have Ny530 := Az.mk hy530
              clear hy530
              have H' := Az.mk H
              clear H
              have p527 : 0 ≤ (x46_2 : Int) := of_decide_eq_true (by first|(with_reducible assumption)|assumption)
              have q527 : x46_2 < (t524.length : Int) := of_decide_eq_true (by first|(with_reducible assumption)|assumption)
              obtain ⟨ad527, e527, hx527_0⟩ := Kd.at_int (Kd.R_reads' HO_44.out).2.2 x46_2 p527 q527
              cases e527
              replace p527 := eq_true p527
              replace q527 := eq_true q527
              try go_wp2
              have n0_ := Az.mk (Kd.Rw HO_4.out)
              have n1_ := Az.mk (Kd.Rw HO_10.out)
              have n2_ := Az.mk (Kd.Rw HO_11.out)
              have n3_ := Az.mk (Kd.Rw HO_13.out)
              have n4_ := Az.mk (Kd.Rw HO_44.out)
              have n5_ := Az.mk (bD HB.out)
              clear HO_4
              clear HO_10
              clear HO_11
              clear HO_13
              clear HO_44
              clear HB
              have HO_4 := n0_
              have HO_10 := n1_
              have HO_11 := n2_
              have HO_13 := n3_
              have HO_44 := n4_
              have HB := n5_
              clear n0_ n1_ n2_ n3_ n4_ n5_
              obtain ⟨Ao33, co33, eo33⟩ := Kd.R_slice HO_4.out
              (first | subst eo33 | (injection eo33 with f1_ f2_ f3_; have f4_ := f1_.symm; have f5_ := f3_.symm; clear f1_ f2_ f3_; subst f4_; subst f5_))
              have p528 : 0 ≤ ((ji25) : Int) := of_decide_eq_true (by first|(with_reducible assumption)|assumption)
              have q528 : (ji25) < (t501.length : Int) := of_decide_eq_true (by first|(with_reducible assumption)|assumption)
              obtain ⟨ad528, e528, hx528_0⟩ := Kd.at_int (Kd.R_reads' HO_4.out).2.2 (ji25) p528 q528
              cases e528
              replace p528 := eq_true p528
              replace q528 := eq_true q528
              refine start_ (n := 10) (S := fun w' => w'.cell? (ad528.add ((ji25)).toNat) = some (.int .i64 (rd t501 (ji25)))) (ds := [9]) #[false, false, false, false, false, false, false, false, false, false] (by kernel_rfl) rfl rfl (hx528_0) (fun hHeld => ?_); refine with_tabW impl_CellsText.tab13 impl_CellsText.bits13 (fun HT_ HW_ => ?_)
              generalize wr.drew = w32 at HO_4 HO_10 HO_11 HO_13 HO_44 HB hx528_0 hHeld ⊢
              refine pure_ (i := 0) (N := some 50) (v := ?_) (a' := ?_) #[true, false, false, false, false, false, false, false, false, false] rfl rfl (any_of HT_.out (by kernel_rfl)) (fun _ _ _ h => h) (Or.inl ⟨by rfl, ?_⟩) ?_ ?_
              rotate_left
              ·intro w'
               go_simp
               with_reducible rfl
              rotate_left
              ·simp only [Act.put, List.setIfInBounds_toArray, List.set_cons_zero, List.set_cons_succ, i64_w, i32_w]
               rfl
              refine pure_ (i := 1) (N := some 51) (v := ?_) (a' := ?_) #[true, true, false, false, false, false, false, false, false, false] rfl rfl (any_of HT_.out (by kernel_rfl)) (fun _ _ _ h => h) (Or.inl ⟨by rfl, ?_⟩) ?_ ?_
              rotate_left
              ·intro w'
               go_simp
               with_reducible rfl
              rotate_left
              ·simp only [Act.put, List.setIfInBounds_toArray, List.set_cons_zero, List.set_cons_succ, i64_w, i32_w]
               rfl
              refine pure_ (i := 2) (N := some 52) (v := ?_) (a' := ?_) #[true, true, true, false, false, false, false, false, false, false] rfl rfl (any_of HT_.out (by kernel_rfl)) (fun _ _ _ h => h) (Or.inl ⟨by rfl, ?_⟩) ?_ ?_
              rotate_left
              ·intro w'
               go_simp
               with_reducible rfl
              rotate_left
              ·simp only [Act.put, List.setIfInBounds_toArray, List.set_cons_zero, List.set_cons_succ, i64_w, i32_w]
               rfl
              refine pure_ (i := 3) (N := some 53) (v := ?_) (a' := ?_) #[true, true, true, true, false, false, false, false, false, false] rfl rfl (any_of HT_.out (by kernel_rfl)) (fun _ _ _ h => h) (Or.inl ⟨by rfl, ?_⟩) ?_ ?_
              rotate_left
              ·intro w'
               go_simp
               with_reducible rfl
              rotate_left
              ·simp only [Act.put, List.setIfInBounds_toArray, List.set_cons_zero, List.set_cons_succ, i64_w, i32_w]
               rfl
              refine pure_ (i := 4) (N := some 54) (v := ?_) (a' := ?_) #[true, true, true, true, true, false, false, false, false, false] rfl rfl (any_of HT_.out (by kernel_rfl)) (fun _ _ _ h => h) (Or.inl ⟨by rfl, ?_⟩) ?_ ?_
              rotate_left
              ·intro w'
               go_simp
               with_reducible rfl
              rotate_left
              ·simp only [Act.put, List.setIfInBounds_toArray, List.set_cons_zero, List.set_cons_succ, i64_w, i32_w]
               rfl
              refine pure_ (i := 6) (N := some 56) (v := ?_) (a' := ?_) #[true, true, true, true, true, false, true, false, false, false] rfl rfl (any_of HT_.out (by kernel_rfl)) (fun _ _ _ h => h) (Or.inl ⟨by rfl, ?_⟩) ?_ ?_
              rotate_left
              ·intro w'
               go_simp
               with_reducible rfl
              rotate_left
              ·simp only [Act.put, List.setIfInBounds_toArray, List.set_cons_zero, List.set_cons_succ, i64_w, i32_w]
               rfl
              refine take_ (i := 5) (N := some 55) (v := ?_) (a' := ?_) #[true, true, true, true, true, true, true, false, false, false] rfl rfl (take_ofW HT_.out HW_.out (by kernel_rfl)) (fun _ _ _ h => h) (Or.inl ⟨by rfl, ?_⟩) hHeld ?_ ?_
              rotate_left
              ·intro w' s0
               go_simp
               with_reducible rfl
              rotate_left
              ·simp only [Act.put, List.setIfInBounds_toArray, List.set_cons_zero, List.set_cons_succ, i64_w, i32_w]
               rfl
              refine one_ (i := 7) (N := some 57) #[true, true, true, true, true, true, true, true, false, false] rfl rfl (one_of HT_.out (by kernel_rfl)) (by decide) (fun K hK => ?_)
              refine goes_ Tryz.func52 (by kernel_rfl) rfl #[.int .i64 (rd t524 x46_2)] (by rfl) rfl rfl (by (try simp only [List.map_toArray, List.map_cons, List.map_nil]); first | done | rfl | (simp only [List.length_drop, List.length_take]; rfl)) ?_
              with_reducible refine (strconv_Itoa.calls (rd t524 x46_2) t529 _ (HLd.out.below (by repeat first|exact HB.out|apply bA|apply bN|apply bD)).toLaidT A28.out).mono ?_
              rintro e w34 ⟨rfl, hb⟩
              have HS0_ := (hb.cell (World.block_lt_of_cell? _ _ (hHeld))).trans (hHeld)
              refine ⟨_, rfl, ?_⟩
              have n0_ := Az.mk (Kd.Rb (by (with_reducible repeat first|apply Kd.Ra|apply Kd.Rn|apply Kd.Rw); exact HO_4.out) hb)
              have n1_ := Az.mk (Kd.Rb (by (with_reducible repeat first|apply Kd.Ra|apply Kd.Rn|apply Kd.Rw); exact HO_10.out) hb)
              have n2_ := Az.mk (Kd.Rb (by (with_reducible repeat first|apply Kd.Ra|apply Kd.Rn|apply Kd.Rw); exact HO_11.out) hb)
              have n3_ := Az.mk (Kd.Rb (by (with_reducible repeat first|apply Kd.Ra|apply Kd.Rn|apply Kd.Rw); exact HO_13.out) hb)
              have n4_ := Az.mk (Kd.Rb (by (with_reducible repeat first|apply Kd.Ra|apply Kd.Rn|apply Kd.Rw); exact HO_44.out) hb)
              have n5_ := Az.mk (bS (by repeat first|exact HB.out|apply bA|apply bN|apply bD) hb)
              clear HO_4
              clear HO_10
              clear HO_11
              clear HO_13
              clear HO_44
              clear HB
              have HO_4 := n0_
              have HO_10 := n1_
              have HO_11 := n2_
              have HO_13 := n3_
              have HO_44 := n4_
              have HB := n5_
              clear n0_ n1_ n2_ n3_ n4_ n5_
              (try clear hb)
              (try clear hb2)
              (try clear hk)
              (try clear hi)
              have p31 : 0 ≤ ((rd t501 (ji25)) : Int) := of_decide_eq_true (by first|(with_reducible assumption)|assumption)
              have q31 : ((rd t501 (ji25)) : Int) < ((x13_2.length : Int) : Int) := of_decide_eq_true (by first|(with_reducible assumption)|assumption)
              obtain ⟨go31, co31, eo31, gb31, gl31, cl31, HG31⟩ := Kd.R_form HO_13.out (by omega)
              (first | cases eo31 | (injection eo31 with ea_ en_ ec_; (first | subst ea_ | (injection ea_ with ea_; subst ea_)); subst ec_; clear en_))
              have GB31 := Az.mk gb31
              have GG31 := Az.mk HG31
              clear gb31 gl31 HG31
              obtain ⟨hx31_0, hf31_0⟩ := Kd.R_celln (⟨#[]⟩ : ByteArray) HO_13.out ((rd t501 (ji25)) : Int) p31 q31
              replace p31 := eq_true p31
              replace q31 := eq_true q31
              have HP35 := Kd.R_putn HO_13.out ((rd t501 (ji25)) : Int) t529
              rw [← Ny530.out] at HP35
              have HQ35 := Az.mk HP35
              clear HP35
              refine hK.out _ _ (HS0_) (fun hHeld => ?_)
              clear hK K
              refine norm_ (a' := ?_) ?_ ?_
              rotate_left
              ·show Act.put _ (some 57) _ = _
               simp only [Act.put, List.setIfInBounds_toArray, List.set_cons_zero, List.set_cons_succ, i64_w, i32_w]
               rfl
              refine pure_ (i := 8) (N := some 58) (v := ?_) (a' := ?_) #[true, true, true, true, true, true, true, true, true, false] rfl rfl (any_of HT_.out (by kernel_rfl)) (fun _ _ _ h => h) (Or.inl ⟨by rfl, ?_⟩) ?_ ?_
              rotate_left
              ·intro w'
               go_simp
               with_reducible rfl
              rotate_left
              ·simp only [Act.put, List.setIfInBounds_toArray, List.set_cons_zero, List.set_cons_succ, i64_w, i32_w]
               rfl
              refine last_ (i := 9) (N := none) #[true, true, true, true, true, true, true, true, true, true] rfl rfl (one_of HT_.out (by kernel_rfl)) (by decide) (fun K hK => ?_)
              refine skip_ (w1 := ?_) (by rfl) rfl ?_ ?_
              rotate_left
              ·go_simp
               rfl
              refine hK.out _ _ ?_
              clear hK K
              refine done_ (done_of HT_.out (by kernel_rfl)) ?_
              try go_wp2
              go_roundg k2
              case measure => have := HK1.out; have := HK2.out; omega
              case rel => exact ⟨(y530), (wrap64 (x46_2 + 1)), (by first | rfl | (simp; done) | (simp [*]; done)), H', ⟨by have := HK1.out; have := HK2.out; omega⟩, ⟨by (with_reducible repeat first|apply Kd.Ra|apply Kd.Rn|apply Kd.Rw); exact Kd.R_mono (Kd.R_far (p := ⟨go31, ((rd t501 (ji25)) : Int).toNat, none⟩) (Kd.R_types HO_4.out GG31.out (by decide)) (fun _ hk => hk.2) (.string t529)) (fun _ hk => hk.1)⟩, ⟨by (with_reducible repeat first|apply Kd.Ra|apply Kd.Rn|apply Kd.Rw); exact Kd.R_mono (Kd.R_far (p := ⟨go31, ((rd t501 (ji25)) : Int).toNat, none⟩) (Kd.R_mono HO_10.out (fun k_ hk => (⟨hk, fun e_ => hk (by rw [e_]; rfl)⟩ : _ ∧ k_ ≠ go31))) (fun _ hk => hk.2) (.string t529)) (fun _ hk => hk.1)⟩, ⟨by (with_reducible repeat first|apply Kd.Ra|apply Kd.Rn|apply Kd.Rw); exact Kd.R_mono (Kd.R_far (p := ⟨go31, ((rd t501 (ji25)) : Int).toNat, none⟩) (Kd.R_types HO_11.out GG31.out (by decide)) (fun _ hk => hk.2) (.string t529)) (fun _ hk => trivial)⟩, ⟨by (with_reducible repeat first|apply Kd.Ra|apply Kd.Rn|apply Kd.Rw); exact HQ35.out⟩, ⟨by (with_reducible repeat first|apply Kd.Ra|apply Kd.Rn|apply Kd.Rw); exact Kd.R_mono (Kd.R_far (p := ⟨go31, ((rd t501 (ji25)) : Int).toNat, none⟩) (Kd.R_types HO_44.out GG31.out (by decide)) (fun _ hk => hk.2) (.string t529)) (fun _ hk => hk.1)⟩, ⟨by repeat (first | (with_reducible first|exact HB.out|apply bA|apply bN|apply bD | refine below_set ?_ GB31.out) | exact HB.out)⟩⟩
             ·rw [if_neg c30] at H
              exact absurd H (by simp)
            ·rw [if_neg c29] at H
             exact absurd H (by simp)
           ·rw [if_neg c27] at H
            exact absurd H (by simp)
          ·rw [if_neg c26] at H
           exact absurd H (by simp)
         ·rw [if_neg c24] at H
          exact absurd H (by simp)
        ·rw [if_neg c23] at H
         exact absurd H (by simp)
       ·rw [if_neg c22] at H
        have c22b0 : decide (x46_2 < (t524.length : Int)) = false := decide_eq_false c22
        clear c22
        replace H := Option.bind_eq_some_iff.mp H
        obtain ⟨t531, A360, H⟩ := H
        replace H : (if x10_1.length < 8796093022208 then (impl_CellsText.l0 k2 t501 t502 (x10_1 ++ [t531]) t514 (t506.length : Int) (wrap64 (x36_1 + 1))) else (none)) = some (r1, r2) := H
        have A36 := Az.mk A360
        clear A360
        by_cases c37 : x10_1.length < 8796093022208
        ·rw [if_pos c37] at H
         have LMc37 := Az.mk c37
         clear c37
         obtain ⟨y532, hy532⟩ : ∃ y_ : List ByteArray, y_ = (x10_1 ++ [t531]) := ⟨_, rfl⟩
         replace H : (impl_CellsText.l0 k2 t501 t502 y532 t514 (t506.length : Int) (wrap64 (x36_1 + 1))) = some (r1, r2) := by first | (rw [hy532]; with_reducible exact H) | (have H2_ := (Option.bind_some _ _).symm.trans H; rw [hy532]; with_reducible exact H2_) | (have H2_ := (Option.bind_some _ _).symm.trans H; with_reducible exact H2_) | with_reducible exact H | (rw [hy532]; exact H) | exact H
         have Ny532 := Az.mk hy532
         clear hy532
         have H' := Az.mk H
         clear H
         obtain ⟨Ao38, co38, eo38⟩ := Kd.R_slice HO_13.out
         subst eo38
         go_wp2_with (first | ((with_reducible refine gate_callee (f := 65) rfl ?_); refine goesL_ (some 62) rfl rfl Tryz.func65 (by kernel_rfl) rfl #[.slice Ao38 x13_2.length co38, .string (⟨#[32]⟩ : ByteArray)] rfl (by (try simp only [List.map_toArray, List.map_cons, List.map_nil]); first | done | rfl | (simp only [List.length_drop, List.length_take]; rfl)) ?_; (with_reducible refine (strings_Join.calls _ _ x13_2 (⟨#[32]⟩ : ByteArray) t531 _ ?side1 ?side2 (R_spot HO_13.out) A36.out).mono ?_); (case side1 => repeat (first | exact (Kd.R_reads' HO_13.out).2.2 | (with_reducible refine Kd.C_alloc ?_ _) | (with_reducible refine Kd.C_drewN ?_ _) | (with_reducible refine Kd.C_drew ?_))); (case side2 => exact (Kd.R_reads' HO_13.out).2.1); rintro e w39 ⟨rfl, hb⟩; refine ⟨_, rfl, ?_⟩; have n0_ := Az.mk (Kd.Rb (by (with_reducible repeat first|apply Kd.Ra|apply Kd.Rn|apply Kd.Rw); exact HO_4.out) hb); have n1_ := Az.mk (Kd.Rb (by (with_reducible repeat first|apply Kd.Ra|apply Kd.Rn|apply Kd.Rw); exact HO_10.out) hb); have n2_ := Az.mk (Kd.Rb (by (with_reducible repeat first|apply Kd.Ra|apply Kd.Rn|apply Kd.Rw); exact HO_11.out) hb); have n3_ := Az.mk (Kd.Rb (by (with_reducible repeat first|apply Kd.Ra|apply Kd.Rn|apply Kd.Rw); exact HO_13.out) hb); have n4_ := Az.mk (Kd.Rb (by (with_reducible repeat first|apply Kd.Ra|apply Kd.Rn|apply Kd.Rw); exact HO_44.out) hb); have n5_ := Az.mk (bS (by repeat first|exact HB.out|apply bA|apply bN|apply bD) hb); clear HO_4; clear HO_10; clear HO_11; clear HO_13; clear HO_44; clear HB; have HO_4 := n0_; have HO_10 := n1_; have HO_11 := n2_; have HO_13 := n3_; have HO_44 := n4_; have HB := n5_; clear n0_ n1_ n2_ n3_ n4_ n5_; (try clear hb); (try clear hb2); (try clear hk); (try clear hi)) | ((with_reducible refine gate_builtin (b := .append) (xs := #[.tmp 60, .tmp 63]) rfl ?_); at_builtin; refine Kd.R_append Kd.string (w0 := w) w.heap.size rfl (.tmp 60) (.tmp 63) 39 9 (.string ⟨#[]⟩) 16 rfl Tryz.underlying39 info9 rfl (by decide) (by omega) u10 x10_1 t531 [.string t531] (fun k_ => some k_ ≠ (.slice Ao38 x13_2.length co38 : Value).ownBlock) (fun _ => False) rfl rfl ?aP (fun _ hk => hk.elim) ?aF ?aO ?aB ?aS ?aL ?_; (case aP => exact rfl); (case aB => exact (by repeat first|exact HB.out|apply bA|apply bN|apply bD)); (case aF => exact (fun k_ hk => Kd.fresh' (Kd.R_lt (by (with_reducible repeat first|apply Kd.Ra|apply Kd.Rn|apply Kd.Rw); exact HO_13.out)) k_ hk)); (case aO => exact (by (with_reducible repeat first|apply Kd.Ra|apply Kd.Rn|apply Kd.Rw); exact HO_10.out)); (case aS => exact (bZ (by repeat first|exact HB.out|apply bA|apply bN|apply bD))); (case aL => have := LMc37.out; omega); intro v533 w40 ho hb hg hat; rw [← Ny532.out] at ho; have n0_ := Az.mk (Kd.R_over' (by (with_reducible repeat first|apply Kd.Ra|apply Kd.Rn|apply Kd.Rw); exact HO_4.out) (Kd.R_typed (by (with_reducible repeat first|apply Kd.Ra|apply Kd.Rn|apply Kd.Rw); exact HO_10.out)) (by decide) hg); have n1_ := Az.mk (Kd.R_over' (by (with_reducible repeat first|apply Kd.Ra|apply Kd.Rn|apply Kd.Rw); exact HO_11.out) (Kd.R_typed (by (with_reducible repeat first|apply Kd.Ra|apply Kd.Rn|apply Kd.Rw); exact HO_10.out)) (by decide) hg); have n2_ := Az.mk (Kd.R_after (ok := (fun _ => True)) (by (with_reducible repeat first|apply Kd.Ra|apply Kd.Rn|apply Kd.Rw); exact Kd.R_mono HO_13.out (fun _ hk => ⟨trivial, hk⟩)) hg hat); have n3_ := Az.mk (Kd.R_over' (by (with_reducible repeat first|apply Kd.Ra|apply Kd.Rn|apply Kd.Rw); exact HO_44.out) (Kd.R_typed (by (with_reducible repeat first|apply Kd.Ra|apply Kd.Rn|apply Kd.Rw); exact HO_10.out)) (by decide) hg); have n4_ := Az.mk (hb); have n5_ := Az.mk (ho); clear HO_4; clear HO_11; clear HO_13; clear HO_44; clear HB; clear HO_10; have HO_4 := n0_; have HO_11 := n1_; have HO_13 := n2_; have HO_44 := n3_; have HB := n4_; have HO534 := n5_; clear n0_ n1_ n2_ n3_ n4_ n5_; clear ho hb hg hat))
         go_roundg k2
         case measure => have := HK1.out; have := HK2.out; omega
         case rel => exact ⟨(y532), (wrap64 (x36_1 + 1)), (by first | rfl | (simp; done) | (simp [*]; done)), H', ⟨by have := HK1.out; have := HK2.out; omega⟩, ⟨by (with_reducible repeat first|apply Kd.Ra|apply Kd.Rn|apply Kd.Rw); exact Kd.R_mono HO_4.out (fun _ hk => trivial)⟩, ⟨by (with_reducible repeat first|apply Kd.Ra|apply Kd.Rn|apply Kd.Rw); exact Kd.R_mono HO534.out (fun _ hk => trivial)⟩, ⟨by (with_reducible repeat first|apply Kd.Ra|apply Kd.Rn|apply Kd.Rw); exact HO_11.out⟩, ⟨by repeat (first | (with_reducible first|exact HB.out|apply bA|apply bN|apply bD) | exact HB.out)⟩⟩
        ·rw [if_neg c37] at H
         exact absurd H (by simp)
    ·rw [if_neg c12] at H
     have c12b0 : decide (x36_1 < (t506.length : Int)) = false := decide_eq_false c12
     clear c12
     by_cases c41 : (x10_1.length : Int) = 0
     ·rw [if_pos c41] at H
      have c41b0 : ((x10_1.length : Int) == 0) = true := beq_iff_eq.mpr c41
      have c41b1 : ((x10_1.length : Int) != 0) = false := bne_eq_false_iff_eq.mpr c41
      clear c41
      simp only [Option.some.injEq, Prod.mk.injEq] at H
      obtain ⟨rfl, rfl⟩ := H
      obtain ⟨Ao42, co42, eo42⟩ := Kd.R_slice HO_10.out
      subst eo42
      go_wp2
      go_ret2
      exact ⟨by first | rfl | (simp [errW_none, errW_some] <;> rfl) | (simp [*, errW_none, errW_some] <;> rfl), by repeat (first | (with_reducible first|exact HB.out|apply bA|apply bN|apply bD) | exact HB.out)⟩
     ·rw [if_neg c41] at H
      have c41b0 : ((x10_1.length : Int) == 0) = false := beq_eq_false_iff_ne.mpr c41
      have c41b1 : ((x10_1.length : Int) != 0) = true := bne_iff_ne.mpr c41
      have c41b2 : ¬ (x10_1 = []) := fun h_ => c41 (by rw [h_]; rfl)
      replace H := Option.bind_eq_some_iff.mp H
      obtain ⟨t517, A430, H⟩ := H
      replace H : (some (t517, true)) = some (r1, r2) := H
      have A43 := Az.mk A430
      clear A430
      simp only [Option.some.injEq, Prod.mk.injEq] at H
      obtain ⟨rfl, rfl⟩ := H
      obtain ⟨Ao44, co44, eo44⟩ := Kd.R_slice HO_10.out
      subst eo44
      go_wp2_with (first | ((with_reducible refine gate_callee (f := 65) rfl ?_); refine goesL_ (some 70) rfl rfl Tryz.func65 (by kernel_rfl) rfl #[.slice Ao44 x10_1.length co44, .string (⟨#[59]⟩ : ByteArray)] rfl (by (try simp only [List.map_toArray, List.map_cons, List.map_nil]); first | done | rfl | (simp only [List.length_drop, List.length_take]; rfl)) ?_; (with_reducible refine (strings_Join.calls _ _ x10_1 (⟨#[59]⟩ : ByteArray) t517 _ ?side1 ?side2 (R_spot HO_10.out) A43.out).mono ?_); (case side1 => repeat (first | exact (Kd.R_reads' HO_10.out).2.2 | (with_reducible refine Kd.C_alloc ?_ _) | (with_reducible refine Kd.C_drewN ?_ _) | (with_reducible refine Kd.C_drew ?_))); (case side2 => exact (Kd.R_reads' HO_10.out).2.1); rintro e w45 ⟨rfl, hb⟩; refine ⟨_, rfl, ?_⟩; have n0_ := Az.mk (Kd.Rb (by (with_reducible repeat first|apply Kd.Ra|apply Kd.Rn|apply Kd.Rw); exact HO_4.out) hb); have n1_ := Az.mk (Kd.Rb (by (with_reducible repeat first|apply Kd.Ra|apply Kd.Rn|apply Kd.Rw); exact HO_10.out) hb); have n2_ := Az.mk (Kd.Rb (by (with_reducible repeat first|apply Kd.Ra|apply Kd.Rn|apply Kd.Rw); exact HO_11.out) hb); have n3_ := Az.mk (bS (by repeat first|exact HB.out|apply bA|apply bN|apply bD) hb); clear HO_4; clear HO_10; clear HO_11; clear HB; have HO_4 := n0_; have HO_10 := n1_; have HO_11 := n2_; have HB := n3_; clear n0_ n1_ n2_ n3_; (try clear hb); (try clear hb2); (try clear hk); (try clear hi)))
      go_ret2
      exact ⟨by first | rfl | (simp [errW_none, errW_some] <;> rfl) | (simp [*, errW_none, errW_some] <;> rfl), by repeat (first | (with_reducible first|exact HB.out|apply bA|apply bN|apply bD) | exact HB.out)⟩
 ·replace c3 := Bool.eq_false_iff.mpr c3
  subst c3
  have H1 : (some ((⟨#[]⟩ : ByteArray), false)) = some (r1, r2) := by rw [if_neg (show ¬ (false = true) by decide)] at H; exact H
  clear H
  have H := H1
  clear H1
  simp only [Option.some.injEq, Prod.mk.injEq] at H
  obtain ⟨rfl, rfl⟩ := H
  go_enter Tryz.func31, Tryz.ntmps31
  go_wp2_with (first | ((with_reducible refine gate_callee (f := 58) rfl ?_); refine goesL_ (some 18) rfl rfl Tryz.func58 (by kernel_rfl) rfl #[.string a0, .func (.func 59) #[] #[]] rfl (by (try simp only [List.map_toArray, List.map_cons, List.map_nil]); first | done | rfl | (simp only [List.length_drop, List.length_take]; rfl)) ?_; (with_reducible refine (impl_kept.calls a0 t501 t502 false _ (HLd.out.below (by repeat first|exact HB.out|apply bA|apply bN|apply bD)) A2.out).mono ?_); rintro e w46 ⟨v504, rfl, ho0, hb⟩; refine ⟨_, rfl, ?_⟩; have n0_ := Az.mk (Kd.R_lower ho0 (bZ (by repeat first|exact HB.out|apply bA|apply bN|apply bD))); have n1_ := Az.mk (bS (by repeat first|exact HB.out|apply bA|apply bN|apply bD) hb); clear HB; have HO505 := n0_; have HB := n1_; clear n0_ n1_; (try clear hb); (try clear hb2); (try clear hk); (try clear hi); (try clear ho0)))
  go_ret2
  exact ⟨by first | rfl | (simp [errW_none, errW_some] <;> rfl) | (simp [*, errW_none, errW_some] <;> rfl), by repeat (first | (with_reducible first|exact HB.out|apply bA|apply bN|apply bD) | exact HB.out)⟩
end Go.Proofs.YtndjbnkmhpbnpaaGreatDoor.Pr
namespace Go.Proofs.YtndjbnkmhpbnpaaGreatDoor.Pr
open Go.RowKit Go.Proofs.YtndjbnkmhpbnpaaGreatDoorW.PrintWords Go.Proofs.YtndjbnkmhpbnpaaGreatDoorW.PrintLast Go.Proofs.YtndjbnkmhpbnpaaGreatDoorW.PrintMore
theorem Ev.posC {α : Type} {c : Prop} [Decidable c] {f g : Nat → Option α} {r : α} (h : c) (k : Ev f r) : Ev (fun n => if c then f n else g n) r := by
 simpa only [if_pos h] using k
def rv (cs : List Int) (al : List Int) (c : Int) : List UInt8 := al.foldl (fun v n => if rd cs (n - 1) = c then Lib.itoa n else v) [46]
theorem rv_snoc (cs al : List Int) (n c : Int) : rv cs (al ++ [n]) c = if rd cs (n - 1) = c then Lib.itoa n else rv cs al c := by
 unfold rv
 rw [List.foldl_append]
 rfl
theorem rv_or (cs : List Int) (c : Int) (al : List Int) : rv cs al c = [46] ∨ ∃ n ∈ al, rv cs al c = Lib.itoa n := by
 unfold rv
 have gen : ∀ (al : List Int) (v : List UInt8), al.foldl (fun v n => if rd cs (n - 1) = c then Lib.itoa n else v) v = v ∨ ∃ n ∈ al, al.foldl (fun v n => if rd cs (n - 1) = c then Lib.itoa n else v) v = Lib.itoa n := by
  intro al
  induction al with
  | nil => intro v; exact .inl rfl
  | cons a r ih =>
   intro v
   simp only [List.foldl_cons]
   rcases ih (if rd cs (a - 1) = c then Lib.itoa a else v) with h | ⟨n, hn, h⟩
   ·split at h
    ·rename_i hc
     exact .inr ⟨a, by simp, by rw [if_pos hc]; exact h⟩
    ·rename_i hc
     exact .inl (by rw [if_neg hc]; exact h)
   ·exact .inr ⟨n, List.mem_cons_of_mem _ hn, h⟩
 exact gen al [46]
def rowP (cs al : List Int) (M : Nat) : List (List UInt8) := (List.range M).map fun (c : Nat) => rv cs al (c : Int)
theorem rowP_length (cs al : List Int) (M : Nat) : (rowP cs al M).length = M := by unfold rowP; simp
theorem rowP_get (cs al : List Int) {M c : Nat} (h : c < M) : (rowP cs al M)[c]'(by rw [rowP_length]; exact h) = rv cs al (c : Int) := by unfold rowP; simp
theorem rowP_ok {cs al : List Int} {M : Nat} (h : ∀ n ∈ al, 1 ≤ n ∧ n ≤ 1000) : ∀ p ∈ rowP cs al M, p.length ≤ 21 ∧ p ≠ [] := by
 intro p hp
 obtain ⟨c, _, rfl⟩ := List.mem_map.1 hp
 rcases rv_or cs (c : Int) al with e | ⟨n, hn, e⟩
 ·rw [e]; decide
 ·rw [e]
  have := h n hn
  exact ⟨itoa_len n (by omega) (by omega), itoa_some n⟩
theorem join_take {ps : List (List UInt8)} {sep : List UInt8} {i : Nat} (h : i < ps.length) : Lib.join (ps.take (i + 1)) sep = if i = 0 then ps[i] else Lib.join (ps.take i) sep ++ sep ++ ps[i] := by
 rw [List.take_succ_eq_append_getElem h]
 split
 ·rename_i hi
  subst hi
  rw [List.take_zero, List.nil_append, Lib.join_one]
 ·rename_i hi
  obtain ⟨p, r, hr⟩ : ∃ p r, ps.take i = p :: r := List.exists_cons_of_ne_nil (fun e => by have := congrArg List.length e; rw [List.length_take] at this; simp only [List.length_nil] at this; omega)
  rw [hr, List.cons_append, Lib.join_cons, Lib.join_cons]
  simp [Lib.joinTail]
theorem join_len {B : Nat} {sep : List UInt8} (hs : sep.length = 1) (ps : List (List UInt8)) (h : ∀ p ∈ ps, p.length ≤ B) : (Lib.join ps sep).length ≤ (B + 1) * ps.length := by
 cases ps with
 | nil => simp [Lib.join_nil]
 | cons p r =>
  have := lens_le (p :: r) h
  rw [Lib.join_length, Nat.add_mul, hs]
  simp only [List.length_cons] at this ⊢
  omega
theorem jn_take_len {cs al : List Int} {M : Nat} (h : ∀ n ∈ al, 1 ≤ n ∧ n ≤ 1000) (hM : M ≤ 600) (c : Nat) : (jn ((rowP cs al M).take c)).length ≤ 13200 := by
 have h1 := join_len (sep := [32]) rfl ((rowP cs al M).take c) (B := 21) (fun p hp => (rowP_ok h p (List.mem_of_mem_take hp)).1)
 have h2 : ((rowP cs al M).take c).length ≤ 600 := by rw [List.length_take, rowP_length]; omega
 unfold jn
 omega
def rowsT (lv : List S31) (cs : List Int) (M n : Nat) : List (List UInt8) := (List.range n).map fun (k : Nat) => jn (rowP cs (alv lv 0 (k : Int)) M)
theorem rowsT_length (lv : List S31) (cs : List Int) (M n : Nat) : (rowsT lv cs M n).length = n := by unfold rowsT; simp
theorem rowsT_get (lv : List S31) (cs : List Int) (M : Nat) {n k : Nat} (h : k < n) : (rowsT lv cs M n)[k]'(by rw [rowsT_length]; exact h) = jn (rowP cs (alv lv 0 (k : Int)) M) := by unfold rowsT; simp
section
variable {lv : List S31} {cs : List Int} {M n : Nat}
theorem alv_small (hl : lv.length ≤ 600) (k : Int) : ∀ x ∈ alv lv 0 k, 1 ≤ x ∧ x ≤ 1000 ∧ x ≤ (lv.length : Int) := by
 intro x hx
 obtain ⟨j, L, h1, h2, _⟩ := (mem_alv k lv 0 x).1 hx
 have := (List.getElem?_eq_some_iff.1 h1).1
 omega
theorem rowsT_len (hl : lv.length ≤ 600) (hM : M ≤ 600) (i : Nat) (hn : n ≤ 600) : (Lib.join ((rowsT lv cs M n).take i) [59]).length ≤ 7921200 := by
 have h1 := join_len (sep := [59]) rfl ((rowsT lv cs M n).take i) (B := 13200) (fun p hp => by
  obtain ⟨k, _, rfl⟩ := List.mem_map.1 (List.mem_of_mem_take hp)
  have := jn_take_len (cs := cs) (al := alv lv 0 (k : Int)) (M := M) (fun x hx => ⟨(alv_small hl _ x hx).1, (alv_small hl _ x hx).2.1⟩) hM M
  rwa [List.take_of_length_le (by rw [rowP_length]; exact Nat.le_refl _)] at this)
 have h2 : ((rowsT lv cs M n).take i).length ≤ 600 := by rw [List.length_take, rowsT_length]; omega
 omega
end
def cellsTxt (lv : List S31) (cs : List Int) (M n : Nat) : ByteArray := if n = 0 then ⟨#[45]⟩ else bs (Lib.join (rowsT lv cs M n) [59])
section
variable {lv : List S31} {cs : List Int} {M n : Nat} (hlv : lv.length ≤ 600) (hcl : cs.length = lv.length) (hM : (M : Int) = cntOf cs) (hM6 : M ≤ 600) (hM0 : 0 < n → 1 ≤ M) (hn : n ≤ 600) (hcs : ∀ y ∈ cs, 0 ≤ y ∧ y < (M : Int))
include hlv hcl
theorem ctS_l2 (i c : Nat) (B : ByteArray) (R : ByteArray × Bool) (hsz : B.size ≤ 100000000)
  (h : Ev (fun k => spec_CellsText.l1 k lv cs (if (c : Int) > 0 then (B ++ (⟨#[32]⟩ : ByteArray)) ++ bs (rv cs (alv lv 0 (i : Int)) (c : Int)) else B ++ bs (rv cs (alv lv 0 (i : Int)) (c : Int))) (alv lv 0 (i : Int)) (n : Int) (i : Int) (M : Int) ((c + 1 : Nat) : Int)) R) (hc : c ≤ 1000) :
  ∀ (d j : Nat), j + d = (alv lv 0 (i : Int)).length → Ev (fun k => spec_CellsText.l2 k lv cs B (alv lv 0 (i : Int)) (c : Int) (bs (rv cs ((alv lv 0 (i : Int)).take j) (c : Int))) (n : Int) (i : Int) (M : Int) (c : Int) (alv lv 0 (i : Int)) ((alv lv 0 (i : Int)).length : Int) (j : Int)) R
 | 0, j, hj => by
  have hb : (rv cs (alv lv 0 (i : Int)) (c : Int)).length ≤ 21 := by
   rcases rv_or cs (c : Int) (alv lv 0 (i : Int)) with e | ⟨x, hx, e⟩
   ·rw [e]; decide
   ·rw [e]
    have := alv_small hlv _ x hx
    exact itoa_len x (by omega) (by omega)
  refine Ev.step (fun k => spec_CellsText.l2.eq_2 (k := k) ..) ?_
  simp only [if_neg (show ¬ ((j : Int) < ((alv lv 0 (i : Int)).length : Int)) by omega)]
  rw [List.take_of_length_le (by omega)]
  by_cases hz : (c : Int) > 0
  ·simp only [if_pos hz] at h ⊢
   refine Ev.posC (by omega) (Ev.posC (by rw [ByteArray.size_append, bs_size]; have : (⟨#[32]⟩ : ByteArray).size = 1 := rfl; omega) ?_)
   rw [wrap_up (by omega)]
   exact h
  ·simp only [if_neg hz] at h ⊢
   refine Ev.posC (by rw [bs_size]; omega) ?_
   rw [wrap_up (by omega)]
   exact h
 | d + 1, j, hj => by
  have hlt : j < (alv lv 0 (i : Int)).length := by omega
  have hx := alv_small hlv _ _ (List.getElem_mem hlt)
  have hal := alv_length (i : Int) lv 0
  have ih := ctS_l2 i c B R hsz h hc d (j + 1) (by omega)
  rw [List.take_succ_eq_append_getElem hlt, rv_snoc] at ih
  refine Ev.step (fun k => spec_CellsText.l2.eq_2 (k := k) ..) ?_
  simp only [if_pos (show ((j : Int) < ((alv lv 0 (i : Int)).length : Int)) by omega), if_pos (show (0 : Int) ≤ (j : Int) by omega), rd_at hlt, wrap_up (show j ≤ 1000000000 by omega), wrap_small (n := (alv lv 0 (i : Int))[j] - 1) (by omega) (by omega), if_pos (show 0 ≤ (alv lv 0 (i : Int))[j] - 1 by omega), if_pos (show (alv lv 0 (i : Int))[j] - 1 < (cs.length : Int) by omega)]
  by_cases he : rd cs ((alv lv 0 (i : Int))[j] - 1) = (c : Int)
  ·simp only [if_pos he] at ih ⊢
   exact Ev.bind (dec_ev _ (by omega) (by omega)) ih
  ·simp only [if_neg he] at ih ⊢
   exact ih
theorem ctS_l1 (i : Nat) (P : List UInt8) (R : ByteArray × Bool) (hsz : P.length ≤ 50000000) (hM6 : M ≤ 600)
  (h : Ev (fun k => spec_CellsText.l0 k lv cs (bs (P ++ jn (rowP cs (alv lv 0 (i : Int)) M))) (n : Int) ((i + 1 : Nat) : Int)) R) (hi : i ≤ 1000) :
  ∀ (d c : Nat), c + d = M → Ev (fun k => spec_CellsText.l1 k lv cs (bs (P ++ jn ((rowP cs (alv lv 0 (i : Int)) M).take c))) (alv lv 0 (i : Int)) (n : Int) (i : Int) (M : Int) (c : Int)) R
 | 0, c, hc => by
  refine Ev.step (fun k => spec_CellsText.l1.eq_2 (k := k) ..) ?_
  simp only [if_neg (show ¬ ((c : Int) < (M : Int)) by omega), wrap_up (show i ≤ 1000000000 by omega)]
  rw [List.take_of_length_le (by rw [rowP_length]; omega)]
  exact h
 | d + 1, c, hc => by
  have hj := jn_take_len (cs := cs) (al := alv lv 0 (i : Int)) (M := M) (fun x hx => ⟨(alv_small hlv _ x hx).1, (alv_small hlv _ x hx).2.1⟩) hM6 c
  have ih := ctS_l1 i P R hsz hM6 h hi d (c + 1) (by omega)
  rw [jn_take (by rw [rowP_length]; omega), rowP_get _ _ (by omega)] at ih
  refine Ev.step (fun k => spec_CellsText.l1.eq_2 (k := k) ..) ?_
  simp only [if_pos (show ((c : Int) < (M : Int)) by omega)]
  refine ctS_l2 hlv hcl i c _ R (by rw [bs_size, List.length_append]; omega) ?_ (by omega) _ 0 (Nat.zero_add _)
  by_cases hz : c = 0
  ·subst hz
   simp only [if_neg (show ¬ (((0 : Nat) : Int) > 0) by omega), bs_append]
   simp only [if_true] at ih
   simpa [jn, Lib.join_nil] using ih
  ·simp only [if_pos (show (c : Int) > 0 by omega), show (⟨#[32]⟩ : ByteArray) = bs [32] from rfl, bs_append]
   simp only [if_neg hz] at ih
   simpa [List.append_assoc] using ih
include hM hM6 hcs
theorem ctI_l1 (i : Nat) (acc : List (List UInt8)) (R : ByteArray × Bool) (ha : acc.length ≤ 1000)
  (h : Ev (fun k => impl_CellsText.l0 k cs (M : Int) (acc.map bs ++ [bs (jn (rowP cs (alv lv 0 (i : Int)) M))]) lv (n : Int) ((i + 1 : Nat) : Int)) R) (hi : i ≤ 1000) :
  ∀ (d j : Nat), j + d = (alv lv 0 (i : Int)).length → Ev (fun k => impl_CellsText.l1 k cs (M : Int) (acc.map bs) lv ((rowP cs ((alv lv 0 (i : Int)).take j) M).map bs) (n : Int) (i : Int) (alv lv 0 (i : Int)) ((alv lv 0 (i : Int)).length : Int) (j : Int)) R
 | 0, j, hj => by
  refine Ev.step (fun k => impl_CellsText.l1.eq_2 (k := k) ..) ?_
  simp only [if_neg (show ¬ ((j : Int) < ((alv lv 0 (i : Int)).length : Int)) by omega), wrap_up (show i ≤ 1000000000 by omega)]
  rw [List.take_of_length_le (by omega)]
  have e : ((rowP cs (alv lv 0 (i : Int)) M).map bs).map (·.data.toList) = rowP cs (alv lv 0 (i : Int)) M := by
   rw [List.map_map]
   have : ((fun x : ByteArray => x.data.toList) ∘ bs) = id := by funext x; exact bs_list x
   rw [this, List.map_id]
  have hjl := jn_take_len (cs := cs) (al := alv lv 0 (i : Int)) (M := M) (fun x hx => ⟨(alv_small hlv _ x hx).1, (alv_small hlv _ x hx).2.1⟩) hM6 M
  rw [List.take_of_length_le (by rw [rowP_length]; exact Nat.le_refl _)] at hjl
  have hJ : strings_Join.f ((rowP cs (alv lv 0 (i : Int)) M).map bs) (⟨#[32]⟩ : ByteArray) = some (bs (jn (rowP cs (alv lv 0 (i : Int)) M))) := by
   unfold strings_Join.f
   rw [e, show (⟨#[32]⟩ : ByteArray).data.toList = [32] from rfl, if_pos ⟨by rw [List.length_map, rowP_length]; omega, by show (jn _).length ≤ _; omega⟩]
   rfl
  simp only [hJ, Option.bind_some, List.length_map]
  exact Ev.posC (by omega) h
 | d + 1, j, hj => by
  have hlt : j < (alv lv 0 (i : Int)).length := by omega
  have hx := alv_small hlv _ _ (List.getElem_mem hlt)
  have hal := alv_length (i : Int) lv 0
  have ih := ctI_l1 i acc R ha h hi d (j + 1) (by omega)
  have hy := hcs _ (rd_mem cs (i := (alv lv 0 (i : Int))[j] - 1) (by omega) (by omega))
  refine Ev.step (fun k => impl_CellsText.l1.eq_2 (k := k) ..) ?_
  simp only [if_pos (show ((j : Int) < ((alv lv 0 (i : Int)).length : Int)) by omega), if_pos (show (0 : Int) ≤ (j : Int) by omega), rd_at hlt, wrap_up (show j ≤ 1000000000 by omega), wrap_small (n := (alv lv 0 (i : Int))[j] - 1) (by omega) (by omega), if_pos (show 0 ≤ (alv lv 0 (i : Int))[j] - 1 by omega), if_pos (show (alv lv 0 (i : Int))[j] - 1 < (cs.length : Int) by omega), itoa_f (alv lv 0 (i : Int))[j] (by omega) (by omega), Option.bind_some, if_pos hy.1, List.length_map, rowP_length, if_pos hy.2]
  have e : ((rowP cs ((alv lv 0 (i : Int)).take j) M).map bs).set (rd cs ((alv lv 0 (i : Int))[j] - 1)).toNat (bs (Lib.itoa (alv lv 0 (i : Int))[j])) = (rowP cs ((alv lv 0 (i : Int)).take (j + 1)) M).map bs := by
   apply List.ext_getElem
   ·simp [rowP_length]
   ·intro q h1 h2
    simp only [List.length_map, rowP_length] at h2
    rw [List.getElem_set, List.getElem_map, List.getElem_map, rowP_get _ _ h2, rowP_get _ _ h2, List.take_succ_eq_append_getElem hlt, rv_snoc]
    by_cases hq : (rd cs ((alv lv 0 (i : Int))[j] - 1)).toNat = q
    ·rw [if_pos hq, if_pos (by omega)]
    ·rw [if_neg hq, if_neg (by omega)]
  rw [e]
  exact ih
include hM0 hn
theorem ctS_l0 : ∀ (d i : Nat), i + d = n → Ev (fun k => spec_CellsText.l0 k lv cs (bs (Lib.join ((rowsT lv cs M n).take i) [59])) (n : Int) (i : Int)) (cellsTxt lv cs M n, true)
 | 0, i, hi => by
  refine Ev.step (fun k => spec_CellsText.l0.eq_2 (k := k) ..) ?_
  simp only [if_neg (show ¬ ((i : Int) < (n : Int)) by omega)]
  rw [List.take_of_length_le (by rw [rowsT_length]; omega), bs_toList]
  unfold cellsTxt
  by_cases hz : n = 0
  ·subst hz
   simp only [if_pos]
   rw [if_pos (by rfl)]
   exact Ev.now _
  ·have hne : Lib.join (rowsT lv cs M n) [59] ≠ [] := by
    have hM1 := hM0 (by omega)
    cases hr : rowsT lv cs M n with
    | nil => have := rowsT_length lv cs M n; rw [hr] at this; simp at this; omega
    | cons p r =>
     have hp : p = jn (rowP cs (alv lv 0 ((0 : Nat) : Int)) M) := by
      have := rowsT_get lv cs M (n := n) (k := 0) (by omega)
      simp only [hr, List.getElem_cons_zero] at this
      exact this
     have hpn : p ≠ [] := by
      rw [hp]
      exact jn_ne _ (fun e => by have := congrArg List.length e; rw [rowP_length] at this; simp at this; omega) (fun q hq => (rowP_ok (fun x hx => ⟨(alv_small hlv _ x hx).1, (alv_small hlv _ x hx).2.1⟩) q hq).2)
     rw [Lib.join_cons]
     simp [hpn]
   simp only [if_neg hz, if_neg hne]
   exact Ev.now _
 | d + 1, i, hi => by
  have hlt : i < n := by omega
  have ih := ctS_l0 d (i + 1) (by omega)
  have hlen := rowsT_len (cs := cs) (n := n) hlv hM6 i hn
  rw [join_take (by rw [rowsT_length]; omega), rowsT_get _ _ _ (by omega)] at ih
  have J : ∀ P : List UInt8, P.length ≤ 50000000 → Ev (fun k => spec_CellsText.l0 k lv cs (bs (P ++ jn (rowP cs (alv lv 0 (i : Int)) M))) (n : Int) ((i + 1 : Nat) : Int)) (cellsTxt lv cs M n, true) →
    Ev (fun k => spec_CellsText.j1 k lv cs (bs P) (i : Int) (n : Int) (i : Int)) (cellsTxt lv cs M n, true) := by
   intro P hP h
   refine Ev.step (fun k => spec_CellsText.j1.eq_2 (k := k) ..) ?_
   refine Ev.bind (l7Alive_ev lv (i : Int) (by omega)) (Ev.bind (count_ev cs (by omega) (fun y hy => by have := hcs y hy; omega)) ?_)
   rw [← hM]
   have := ctS_l1 hlv hcl i P _ hP hM6 h (by omega) M 0 (Nat.zero_add _)
   simpa [jn, Lib.join_nil] using this
  refine Ev.step (fun k => spec_CellsText.l0.eq_2 (k := k) ..) ?_
  simp only [if_pos (show ((i : Int) < (n : Int)) by omega)]
  by_cases hz : i = 0
  ·subst hz
   simp only [if_neg (show ¬ (((0 : Nat) : Int) > 0) by omega)]
   refine J _ (by simp [Lib.join_nil]) ?_
   simp only [if_true] at ih
   simpa [Lib.join_nil] using ih
  ·simp only [if_pos (show ((i : Int) > 0) by omega), show (⟨#[59]⟩ : ByteArray) = bs [59] from rfl, bs_append, bs_size]
   refine Ev.posC (by omega) (J _ (by simp only [List.length_append, List.length_singleton]; omega) ?_)
   simp only [if_neg hz] at ih
   exact ih
theorem ctI_l0 : ∀ (d i : Nat), i + d = n → Ev (fun k => impl_CellsText.l0 k cs (M : Int) (((rowsT lv cs M n).take i).map bs) lv (n : Int) (i : Int)) (cellsTxt lv cs M n, true)
 | 0, i, hi => by
  refine Ev.step (fun k => impl_CellsText.l0.eq_2 (k := k) ..) ?_
  simp only [if_neg (show ¬ ((i : Int) < (n : Int)) by omega)]
  rw [List.take_of_length_le (by rw [rowsT_length]; omega)]
  unfold cellsTxt
  by_cases hz : n = 0
  ·subst hz
   simp only [if_pos]
   rw [if_pos (by rfl)]
   exact Ev.now _
  ·have e : ((rowsT lv cs M n).map bs).map (·.data.toList) = rowsT lv cs M n := by
    rw [List.map_map]
    have : ((fun x : ByteArray => x.data.toList) ∘ bs) = id := by funext x; exact bs_list x
    rw [this, List.map_id]
   have hlen := rowsT_len (cs := cs) (n := n) hlv hM6 n hn
   rw [List.take_of_length_le (by rw [rowsT_length]; exact Nat.le_refl _)] at hlen
   have hJ : strings_Join.f ((rowsT lv cs M n).map bs) (⟨#[59]⟩ : ByteArray) = some (bs (Lib.join (rowsT lv cs M n) [59])) := by
    unfold strings_Join.f
    rw [e, show (⟨#[59]⟩ : ByteArray).data.toList = [59] from rfl, if_pos ⟨by rw [List.length_map, rowsT_length]; omega, by omega⟩]
    rfl
   simp only [if_neg hz, hJ, Option.bind_some, List.length_map, rowsT_length, if_neg (show ¬ ((n : Int) = 0) by omega)]
   exact Ev.now _
 | d + 1, i, hi => by
  have hlt : i < n := by omega
  have ih := ctI_l0 d (i + 1) (by omega)
  rw [List.take_succ_eq_append_getElem (by rw [rowsT_length]; omega), rowsT_get _ _ _ (by omega), List.map_append, List.map_cons, List.map_nil] at ih
  have hrep : slices_Repeat_string_string.f [(⟨#[46]⟩ : ByteArray)] (M : Int) = some ((rowP cs ((alv lv 0 (i : Int)).take 0) M).map bs) := by
   unfold slices_Repeat_string_string.f
   rw [if_pos ⟨rfl, by omega, by omega⟩]
   congr 1
   unfold rowP
   rw [List.map_map, Int.toNat_natCast]
   apply List.ext_getElem
   ·simp
   ·intro q h1 h2
    simp [rv]
    rfl
  refine Ev.step (fun k => impl_CellsText.l0.eq_2 (k := k) ..) ?_
  simp only [if_pos (show ((i : Int) < (n : Int)) by omega), hrep, Option.bind_some]
  refine Ev.bind (alive_ev lv (i : Int) (by omega)) ?_
  exact ctI_l1 hlv hcl hM hM6 hcs i _ _ (by rw [List.length_take, rowsT_length]; omega) ih (by omega) _ 0 (Nat.zero_add _)
end
theorem Good.some_made {o : List S55} {m : Nat} {l : List Int} (h : Good o m l) : 0 < o.length → 1 ≤ m := by
 induction h with
 | nil => intro h; simp at h
 | make g hs ih => intro _; omega
 | use g hs hn ih => intro _; have := g.range _ hn; omega
 | kill g hs hn ih => intro _; have := g.range _ hn; omega
def cellsTextOf (a0 : ByteArray) : ByteArray × Bool := if (toldOf a0).2.2 = true then (cellsTxt (lvs (toldOf a0).1) (cst Gf (toldOf a0).1).1 (cntOf (cst Gf (toldOf a0).1).1).toNat (toldOf a0).1.length, true) else (⟨#[]⟩, false)
theorem ct_facts {o : List S55} {m : Nat} {l : List Int} (g : Good o m l) (hl : o.length ≤ 600) : (lvs o).length ≤ 600 ∧ (cst Gf o).1.length = (lvs o).length ∧ (((cntOf (cst Gf o).1).toNat : Nat) : Int) = cntOf (cst Gf o).1 ∧ (cntOf (cst Gf o).1).toNat ≤ 600 ∧ (0 < o.length → 1 ≤ (cntOf (cst Gf o).1).toNat) ∧ ∀ y ∈ (cst Gf o).1, 0 ≤ y ∧ y < (((cntOf (cst Gf o).1).toNat : Nat) : Int) := by
 have h1 := g.lvs_length
 have h2 := g.made
 have h3 := g.cells_length (G := Gf)
 have h4 := g.taken (G := Gf) getter_first.bound
 have h5 := cntGo_le (cst Gf o).1 0
 have h6 := cntGo_is (cst Gf o).1 0
 have h7 : cntOf (cst Gf o).1 = cntGo (cst Gf o).1 0 := rfl
 rw [h7]
 have hle : cntGo (cst Gf o).1 0 ≤ 600 := by
  rcases h6 with h6 | ⟨x, hx, h6⟩
  ·omega
  ·have := h4.2.2 x hx; omega
 refine ⟨by omega, by omega, by omega, by omega, fun hp => ?_, fun y hy => ⟨(h4.2.2 y hy).1, by have := h5.2 y hy; omega⟩⟩
 have hm := g.some_made hp
 obtain ⟨y, hy⟩ : ∃ y, y ∈ (cst Gf o).1 := ⟨_, List.getElem_mem (show 0 < (cst Gf o).1.length by omega)⟩
 have := h5.2 y hy
 have := h4.2.2 y hy
 omega
theorem ctS_ev (a0 : ByteArray) (hs : a0.size ≤ 1048576) : Ev (fun k => spec_CellsText.f k a0) (cellsTextOf a0) := by
 obtain ⟨m, l, g, hm, hl⟩ := told_good a0
 obtain ⟨f1, f2, f3, f4, f5, f6⟩ := ct_facts g hl
 unfold spec_CellsText.f cellsTextOf
 refine Ev.bind (l7Read_ev a0 hs) ?_
 dsimp only
 split
 ·refine Ev.bind (lives_ev g (by omega)) (Ev.bind (cells_ev g (by omega)) ?_)
  have := ctS_l0 f1 f2 f3 f4 f5 hl f6 _ 0 (Nat.zero_add _)
  rw [List.length_map]
  exact this
 ·exact Ev.now _
theorem ctI_ev (a0 : ByteArray) (hs : a0.size ≤ 1048576) : Ev (fun k => impl_CellsText.f k a0) (cellsTextOf a0) := by
 obtain ⟨m, l, g, hm, hl⟩ := told_good a0
 obtain ⟨f1, f2, f3, f4, f5, f6⟩ := ct_facts g hl
 unfold impl_CellsText.f cellsTextOf
 simp only [kept_f a0 hs, told_f a0 hs, Option.bind_some, hm]
 unfold cellsOf manyOf
 by_cases hb : (toldOf a0).2.2 = true
 ·simp only [if_pos hb, if_true, lives_told g (show (toldOf a0).1.length ≤ 1000000 by omega), Option.bind_some]
  have := ctI_l0 f1 f2 f3 f4 f5 hl f6 _ 0 (Nat.zero_add _)
  rw [f3] at this
  exact this
 ·simp only [if_neg hb, Bool.false_eq_true, if_false]
  exact Ev.now _
end Go.Proofs.YtndjbnkmhpbnpaaGreatDoor.Pr
namespace Go.Proofs.YtndjbnkmhpbnpaaGreatDoor.Pr
open Go.RowKit Go.Proofs.YtndjbnkmhpbnpaaGreatDoorW.PrintWords Go.Proofs.YtndjbnkmhpbnpaaGreatDoorW.PrintLast Go.Proofs.YtndjbnkmhpbnpaaGreatDoorW.PrintMore
set_option linter.unusedVariables false
set_option linter.unusedSimpArgs false
theorem extract_one (s : ByteArray) (i : Nat) (hi : i < s.size) : (s.extract i (i + 1)).data.toList = [s.data.toList[i]'(by simpa using hi)] := by
 have h1 : i < s.data.toList.length := by simpa using hi
 rw [ByteArray.data_extract, Array.toList_extract]
 rw [List.extract_eq_take_drop, show i + 1 - i = 1 by omega, List.drop_eq_getElem_cons h1]
 rfl
theorem elWords_go (s : ByteArray) (hs : s.size ≤ 1048576) : ∀ (d i : Nat) (x3 : List ByteArray) (x4 : ByteArray), i + d = s.size → x3.length ≤ i → x4.size ≤ i →
  ∃ W, Ev (fun k => laws_elWords.l0 k s x3 x4 (s.size : Int) (i : Int)) W ∧ W.map (·.data.toList) = x3.map (·.data.toList) ++ pre x4.data.toList (cutL (s.data.toList.drop i))
 | 0, i, x3, x4, hi, h3, h4 => by
  refine ⟨x3 ++ [x4], ?_, ?_⟩
  ·refine Ev.step (fun k => laws_elWords.l0.eq_2 (k := k) ..) ?_
   simp only [if_neg (show ¬ ((i : Int) < (s.size : Int)) by omega), if_pos (show x3.length < 8796093022208 by omega)]
   exact Ev.now _
  ·rw [List.drop_of_length_le (by simp; omega)]
   simp [cutL, pre]
 | d + 1, i, x3, x4, hi, h3, h4 => by
  have hlt : i < s.size := by omega
  have hil : i < s.data.toList.length := by simpa using hlt
  have S : ∀ r, Ev (fun k => if (bt s (i : Int)) = 32 then (laws_elWords.l0 k s (x3 ++ [x4]) (⟨#[]⟩ : ByteArray) (s.size : Int) ((i + 1 : Nat) : Int)) else (laws_elWords.l0 k s x3 (x4 ++ s.extract i (i + 1)) (s.size : Int) ((i + 1 : Nat) : Int))) r →
    Ev (fun k => laws_elWords.l0 k s x3 x4 (s.size : Int) (i : Int)) r := by
   intro r h
   have hx : (s.extract i (i + 1)).size = 1 := by
    rw [ByteArray.size_extract]
    omega
   refine Ev.step (fun k => laws_elWords.l0.eq_2 (k := k) ..) ?_
   simp only [if_pos (show ((i : Int) < (s.size : Int)) by omega), if_pos (show (0 : Int) ≤ (i : Int) by omega), wrap_up (show i ≤ 1000000000 by omega), if_pos (show x3.length < 8796093022208 by omega), if_pos (show (i : Int) ≤ ((i + 1 : Nat) : Int) by omega), if_pos (show ((i + 1 : Nat) : Int) ≤ (s.size : Int) by omega), Int.toNat_natCast, hx, if_pos (show x4.size + 1 ≤ 9223372036854775807 by omega)]
   exact h
  rw [List.drop_eq_getElem_cons hil, cutL]
  by_cases hc : s.data.toList[i] = 32
  ·obtain ⟨W, h1, h2⟩ := elWords_go s hs d (i + 1) (x3 ++ [x4]) ⟨#[]⟩ (by omega) (by simp; omega) (by show 0 ≤ i + 1; omega)
   refine ⟨W, S W ?_, ?_⟩
   ·simp only [if_pos (show (bt s (i : Int)) = 32 by rw [bt_at s i hlt, hc]; rfl)]
    exact h1
   ·rw [h2, if_pos hc]
    have e0 : (⟨#[]⟩ : ByteArray).data.toList = [] := rfl
    rw [e0, pre_nil]
    simp [pre]
  ·have hx : (x4 ++ s.extract i (i + 1)).data.toList = x4.data.toList ++ [s.data.toList[i]] := by
    rw [ByteArray.data_append, Array.toList_append, extract_one s i hlt]
   have hsz : (x4 ++ s.extract i (i + 1)).size = x4.size + 1 := by
    rw [ByteArray.size_append, ByteArray.size_extract]
    omega
   obtain ⟨W, h1, h2⟩ := elWords_go s hs d (i + 1) x3 (x4 ++ s.extract i (i + 1)) (by omega) (by omega) (by omega)
   refine ⟨W, S W ?_, ?_⟩
   ·simp only [if_neg (show ¬ (bt s (i : Int)) = 32 by rw [bt_at s i hlt]; intro e; apply hc; apply UInt8.toNat_inj.1; have : (32 : UInt8).toNat = 32 := rfl; omega)]
    exact h1
   ·rw [h2, if_neg hc, pre_pre, hx]
theorem elWords_ev (s : ByteArray) (hs : s.size ≤ 1048576) : ∃ W, Ev (fun k => laws_elWords.f k s) W ∧ W.map (·.data.toList) = cutL s.data.toList := by
 obtain ⟨W, h1, h2⟩ := elWords_go s hs s.size 0 [] ⟨#[]⟩ (Nat.zero_add _) (Nat.zero_le _) (Nat.zero_le _)
 refine ⟨W, h1, ?_⟩
 rw [h2]
 have e0 : (⟨#[]⟩ : ByteArray).data.toList = [] := rfl
 rw [e0, pre_nil]
 rfl
theorem told_words {a0 : ByteArray} (h : (toldOf a0).2.2 = true) {m : Nat} {l : List Int} (g : Good (toldOf a0).1 m l) : cutL a0.data.toList = if (toldOf a0).1 = [] then [[45]] else (toldOf a0).1.map piece := by
 have ht := (told_text h).1
 by_cases ho : (toldOf a0).1 = []
 ·rw [if_pos ho]
  rw [ho] at ht
  rw [ht]
  rfl
 ·rw [if_neg ho]
  have hne : (toldOf a0).1.map piece ≠ [] := by simpa using ho
  have e : a0.data.toList = jn ((toldOf a0).1.map piece) := by
   have h2 : txt ((toldOf a0).1.map piece) = bs (jn ((toldOf a0).1.map piece)) := by unfold txt; rw [if_neg hne]
   rw [h2] at ht
   exact (congrArg (fun b => b.data.toList) ht).trans (bs_list _)
  rw [e, cut_jn _ hne (piece_plain g)]
theorem reu_at (full : List S55) : ∀ (o : List S55) (i : Nat), full.drop i = o → ∀ n ∈ reu (prevOf full i) o, ∃ (k : Nat) (e e' : S55), full[k + 1]? = some e ∧ e.f0.toList = [43] ∧ e.f1 = n ∧ full[k]? = some e' ∧ e'.f0.toList = [45]
 | [], i, h, n, hn => by simp [reu] at hn
 | e :: r, i, h, n, hn => by
  have hi : i < full.length := by
   apply Classical.byContradiction
   intro hc
   rw [List.drop_of_length_le (by omega)] at h
   cases h
  have he : full[i]? = some e := by
   rw [List.drop_eq_getElem_cons hi] at h
   injection h with h1 h2
   rw [List.getElem?_eq_getElem hi, h1]
  have hr : full.drop (i + 1) = r := by
   rw [List.drop_eq_getElem_cons hi] at h
   injection h with h1 h2
  rw [reu, ← prev_next he] at hn
  have hrest := reu_at full r (i + 1) hr n
  split at hn
  ·rename_i hp
   rcases List.mem_cons.1 hn with hn' | hn'
   ·have hpv := hp.1
    unfold prevOf at hpv
    rw [Bool.and_eq_true, decide_eq_true_eq] at hpv
    obtain ⟨k, rfl⟩ : ∃ k, i = k + 1 := ⟨i - 1, by omega⟩
    have hk : full[k]? = some full[k] := List.getElem?_eq_getElem (by omega)
    refine ⟨k, e, full[k], he, hp.2, hn'.symm, hk, ?_⟩
    have h2 := hpv.2
    rw [show ((k + 1 : Nat) : Int) - 1 = (k : Int) by omega, rd62_at hk] at h2
    exact eq_of_beq h2
   ·exact hrest hn'
  ·exact hrest hn
theorem reu_sub : ∀ (p : Bool) (o : List S55), (reu p o).Sublist ((o.filter (fun e => e.f0.toList == [43])).map S55.f1)
 | _, [] => by simp [reu]
 | p, e :: r => by
  have ih := reu_sub (e.f0.toList == [45]) r
  rw [reu]
  by_cases hs : e.f0.toList = [43]
  ·rw [List.filter_cons_of_pos (by simp [hs]), List.map_cons]
   split
   ·exact ih.cons_cons _
   ·exact ih.cons _
  ·rw [List.filter_cons_of_neg (by simp [hs]), if_neg (fun h => hs h.2)]
   exact ih
theorem Good.begun {o : List S55} {m : Nat} {l : List Int} (g : Good o m l) : ((o.filter (fun e => e.f0.toList == [43])).map S55.f1).Pairwise (· < ·) ∧ ∀ n ∈ (o.filter (fun e => e.f0.toList == [43])).map S55.f1, n ≤ m := by
 induction g with
 | nil => exact ⟨List.Pairwise.nil, fun n hn => by cases hn⟩
 | @make o m l s g hs ih =>
  rw [List.filter_append, List.filter_cons_of_pos (by simp [hs]), List.filter_nil, List.map_append]
  refine ⟨List.pairwise_append.2 ⟨ih.1, List.pairwise_singleton _ _, fun a ha b hb => ?_⟩, fun n hn => ?_⟩
  ·have h1 := ih.2 a ha
   have h2 : b = ((m + 1 : Nat) : Int) := by simpa using hb
   omega
  ·rcases List.mem_append.1 hn with hn | hn
   ·have h1 := ih.2 n hn
    omega
   ·have h2 : n = ((m + 1 : Nat) : Int) := by simpa using hn
    omega
 | @use o m l s n g hs hn ih =>
  rw [List.filter_append, List.filter_cons_of_neg (by simp [hs]), List.filter_nil, List.append_nil]
  exact ih
 | @kill o m l s n g hs hn ih =>
  rw [List.filter_append, List.filter_cons_of_neg (by simp [hs]), List.filter_nil, List.append_nil]
  exact ih
theorem digits_low : ∀ (k u : Nat), u < k → ∀ c ∈ Lib.decDigits u, c.toNat ≤ 57
 | 0, u, h, _, _ => by omega
 | k + 1, u, h, c, hc => by
  rw [Lib.decDigits] at hc
  split at hc
  ·rename_i hu
   have := List.mem_singleton.1 hc
   subst this
   rw [ofNat_digit hu]
   omega
  ·rcases List.mem_append.1 hc with hc | hc
   ·exact digits_low k (u / 10) (by omega) c hc
   ·have := List.mem_singleton.1 hc
    subst this
    rw [ofNat_digit (by omega)]
    omega
theorem join_mem {c : UInt8} {sep : List UInt8} : ∀ {ps : List (List UInt8)}, c ∈ Lib.join ps sep → c ∈ sep ∨ ∃ p ∈ ps, c ∈ p
 | [], h => by rw [Lib.join_nil] at h; cases h
 | p :: r, h => by
  rw [Lib.join_cons] at h
  rcases List.mem_append.1 h with h | h
  ·exact .inr ⟨p, by simp, h⟩
  ·unfold Lib.joinTail at h
   obtain ⟨q, hq, hc⟩ := List.mem_flatten.1 h
   obtain ⟨q', hq', rfl⟩ := List.mem_map.1 hq
   rcases List.mem_append.1 hc with hc | hc
   ·exact .inl hc
   ·exact .inr ⟨q', List.mem_cons_of_mem _ hq', hc⟩
theorem join_count {c : UInt8} : ∀ (ps : List (List UInt8)), ps ≠ [] → (∀ p ∈ ps, c ∉ p) → (Lib.join ps [c]).count c + 1 = ps.length
 | [], h, _ => absurd rfl h
 | [p], _, hp => by
  rw [Lib.join_one, List.count_eq_zero_of_not_mem (hp p (by simp))]
  rfl
 | p :: q :: r, _, hp => by
  have ih := join_count (q :: r) (by simp) (fun x hx => hp x (List.mem_cons_of_mem _ hx))
  have e : Lib.join (p :: q :: r) [c] = p ++ [c] ++ Lib.join (q :: r) [c] := by
   rw [Lib.join_cons, Lib.join_cons]
   simp [Lib.joinTail]
  rw [e, List.count_append, List.count_append, List.count_eq_zero_of_not_mem (hp p (by simp))]
  have : List.count c [c] = 1 := by simp
  rw [this]
  simp only [List.length_cons] at ih ⊢
  omega
theorem row_plain {lv : List S31} (hl : lv.length ≤ 600) {cs : List Int} {M n : Nat} : ∀ p ∈ rowsT lv cs M n, (59 : UInt8) ∉ p := by
 intro p hp h59
 unfold rowsT at hp
 obtain ⟨k, _, rfl⟩ := List.mem_map.1 hp
 unfold jn at h59
 rcases join_mem h59 with h | ⟨q, hq, h⟩
 ·simp at h
 ·unfold rowP at hq
  obtain ⟨c, _, rfl⟩ := List.mem_map.1 hq
  rcases rv_or cs (c : Int) (alv lv 0 (k : Int)) with e | ⟨x, hx, e⟩
  ·rw [e] at h; simp at h
  ·rw [e] at h
   have := alv_small hl _ x hx
   obtain ⟨u, hu⟩ := Int.eq_ofNat_of_zero_le (show 0 ≤ x by omega)
   rw [hu, Lib.itoa_nonneg] at h
   have := digits_low (u + 1) u (by omega) _ h
   simp at this
theorem cellsTxt_count {lv : List S31} (hl : lv.length ≤ 600) (cs : List Int) (M n : Nat) : (cellsTxt lv cs M n).data.toList.count 59 + 1 = if n = 0 then 1 else n := by
 unfold cellsTxt
 by_cases hn : n = 0
 ·rw [if_pos hn, if_pos hn]; rfl
 ·rw [if_neg hn, if_neg hn, bs_list]
  rw [join_count _ (fun h => by have := rowsT_length lv cs M n; rw [h] at this; simp at this; omega) (row_plain hl), rowsT_length]
theorem cellsTxt_size {lv : List S31} (hl : lv.length ≤ 600) (cs : List Int) {M n : Nat} (hM : M ≤ 600) (hn : n ≤ 600) : (cellsTxt lv cs M n).size ≤ 8000000 := by
 unfold cellsTxt
 split
 ·decide
 ·have h1 := rowsT_len (lv := lv) (cs := cs) hl hM n hn
  rw [List.take_of_length_le (by rw [rowsT_length]; exact Nat.le_refl _)] at h1
  rw [bs_size]
  omega
end Go.Proofs.YtndjbnkmhpbnpaaGreatDoor.Pr
namespace Go.Proofs.YtndjbnkmhpbnpaaGreatDoor.Pr
open Go.RowKit Go.Proofs.YtndjbnkmhpbnpaaGreatDoorW.PrintWords Go.Proofs.YtndjbnkmhpbnpaaGreatDoorW.PrintLast Go.Proofs.YtndjbnkmhpbnpaaGreatDoorW.PrintMore
attribute [local go_sem] max2_int min2_int max_two min_two max_three min_three max_four min_four   -- for this text's walks alone
set_option linter.unusedVariables false
set_option linter.unusedSimpArgs false
def impl_LivesOf.f (a0 : ByteArray) : Option ((List (S31)) × Bool) := (impl_told.f a0).bind fun bt245 => (if bt245.2.2 = true then ((impl_lives.f bt245.1 bt245.2.1).bind fun t250 => (some (t250, true))) else (some (([] : List (S31)), false)))
set_option maxHeartbeats 8000000 in
set_option maxRecDepth 100000 in
theorem impl_LivesOf.calls (a0 : ByteArray) (r1 : List (S31)) (r2 : Bool) (w : World) (hLd : LaidW w) (h : impl_LivesOf.f a0 = some (r1, r2)) :
  Calls Tryz.prog 14 #[.string a0] w fun e w' => ∃ v0_ : Value, e = .returned (.tuple #[v0_, .bool r2]) ∧ Kd.R k31 31 w' w.heap.size (fun _ => True) v0_ r1 ∧ Below w.heap.size w w' := by
 have HB := Az.mk (Below.refl w.heap.size w)
 have HLd := Az.mk hLd
 clear hLd
 have H : ((impl_told.f a0).bind fun bt245 => (if bt245.2.2 = true then ((impl_lives.f bt245.1 bt245.2.1).bind fun t250 => (some (t250, true))) else (some (([] : List (S31)), false)))) = some (r1, r2) := h
 clear h
 replace H := Option.bind_eq_some_iff.mp H
 obtain ⟨⟨t245, t246, t247⟩, A20, H⟩ := H
 replace H : (if t247 = true then ((impl_lives.f t245 t246).bind fun t250 => (some (t250, true))) else (some (([] : List (S31)), false))) = some (r1, r2) := H
 have A2 := Az.mk A20
 clear A20
 by_cases c3 : t247 = true
 ·subst c3
  have H1 : ((impl_lives.f t245 t246).bind fun t250 => (some (t250, true))) = some (r1, r2) := by rw [if_pos rfl] at H; exact H
  clear H
  have H := H1
  clear H1
  replace H := Option.bind_eq_some_iff.mp H
  obtain ⟨t250, A40, H⟩ := H
  replace H : (some (t250, true)) = some (r1, r2) := H
  have A4 := Az.mk A40
  clear A40
  simp only [Option.some.injEq, Prod.mk.injEq] at H
  obtain ⟨rfl, rfl⟩ := H
  go_enter Tryz.func14, Tryz.ntmps14
  go_wp2_with (first | ((with_reducible refine gate_callee (f := 50) rfl ?_); refine goesL_ (some 9) rfl rfl Tryz.func50 (by kernel_rfl) rfl #[.string a0] rfl (by (try simp only [List.map_toArray, List.map_cons, List.map_nil]); first | done | rfl | (simp only [List.length_drop, List.length_take]; rfl)) ?_; (with_reducible refine (impl_told.calls a0 t245 t246 true _ (HLd.out.below (by repeat first|exact HB.out|apply bA|apply bN|apply bD)) A2.out).mono ?_); rintro e w5 ⟨v248, rfl, ho0, hb⟩; refine ⟨_, rfl, ?_⟩; have n0_ := Az.mk (Kd.R_lower ho0 (bZ (by repeat first|exact HB.out|apply bA|apply bN|apply bD))); have n1_ := Az.mk (bS (by repeat first|exact HB.out|apply bA|apply bN|apply bD) hb); clear HB; have HO249 := n0_; have HB := n1_; clear n0_ n1_; (try clear hb); (try clear hb2); (try clear hk); (try clear hi); (try clear ho0); obtain ⟨Ao6, co6, eo6⟩ := Kd.R_slice HO249.out; subst eo6) | ((with_reducible refine gate_callee (f := 51) rfl ?_); refine goesL_ (some 17) rfl rfl Tryz.func51 (by kernel_rfl) rfl #[.slice Ao6 t245.length co6, .int .i64 t246] rfl (by (try simp only [List.map_toArray, List.map_cons, List.map_nil]); first | done | rfl | (simp only [List.length_drop, List.length_take]; rfl)) ?_; (with_reducible refine (impl_lives.calls _ _ t245 t246 t250 _ ?side1 ?side2 A4.out).mono ?_); (case side1 => repeat (first | exact (Kd.R_reads' HO249.out).2.2 | (with_reducible refine Kd.C_alloc ?_ _) | (with_reducible refine Kd.C_drewN ?_ _) | (with_reducible refine Kd.C_drew ?_))); (case side2 => exact (Kd.R_reads' HO249.out).2.1); rintro e w7 ⟨v251, rfl, ho0, hb⟩; refine ⟨_, rfl, ?_⟩; have n0_ := Az.mk (Kd.Rb (by (with_reducible repeat first|apply Kd.Ra|apply Kd.Rn|apply Kd.Rw); exact HO249.out) hb); have n1_ := Az.mk (Kd.R_lower ho0 (bZ (by repeat first|exact HB.out|apply bA|apply bN|apply bD))); have n2_ := Az.mk (bS (by repeat first|exact HB.out|apply bA|apply bN|apply bD) hb); clear HO249; clear HB; have HO249 := n0_; have HO252 := n1_; have HB := n2_; clear n0_ n1_ n2_; (try clear hb); (try clear hb2); (try clear hk); (try clear hi); (try clear ho0)))
  go_ret2
  exact ⟨_, by first | rfl | (simp [errW_none, errW_some] <;> rfl) | (simp [*, errW_none, errW_some] <;> rfl), by (with_reducible repeat first|apply Kd.Ra|apply Kd.Rn|apply Kd.Rw); exact HO252.out, by repeat (first | (with_reducible first|exact HB.out|apply bA|apply bN|apply bD) | exact HB.out)⟩
 ·replace c3 := Bool.eq_false_iff.mpr c3
  subst c3
  have H1 : (some (([] : List (S31)), false)) = some (r1, r2) := by rw [if_neg (show ¬ (false = true) by decide)] at H; exact H
  clear H
  have H := H1
  clear H1
  simp only [Option.some.injEq, Prod.mk.injEq] at H
  obtain ⟨rfl, rfl⟩ := H
  go_enter Tryz.func14, Tryz.ntmps14
  go_wp2_with (first | ((with_reducible refine gate_callee (f := 50) rfl ?_); refine goesL_ (some 9) rfl rfl Tryz.func50 (by kernel_rfl) rfl #[.string a0] rfl (by (try simp only [List.map_toArray, List.map_cons, List.map_nil]); first | done | rfl | (simp only [List.length_drop, List.length_take]; rfl)) ?_; (with_reducible refine (impl_told.calls a0 t245 t246 false _ (HLd.out.below (by repeat first|exact HB.out|apply bA|apply bN|apply bD)) A2.out).mono ?_); rintro e w8 ⟨v248, rfl, ho0, hb⟩; refine ⟨_, rfl, ?_⟩; have n0_ := Az.mk (Kd.R_lower ho0 (bZ (by repeat first|exact HB.out|apply bA|apply bN|apply bD))); have n1_ := Az.mk (bS (by repeat first|exact HB.out|apply bA|apply bN|apply bD) hb); clear HB; have HO249 := n0_; have HB := n1_; clear n0_ n1_; (try clear hb); (try clear hb2); (try clear hk); (try clear hi); (try clear ho0)))
  go_ret2
  exact ⟨_, by first | rfl | (simp [errW_none, errW_some] <;> rfl) | (simp [*, errW_none, errW_some] <;> rfl), by first | exact Kd.R_nil _ _ _ _ _ | exact Kd.N_nil _ _ _ _ _ | exact Kd.V_nil _ _ _ _ _ | exact Kd.Q_nil _ _ _ _ _ | exact Kd.S_nil _ _ _ _ _, by repeat (first | (with_reducible first|exact HB.out|apply bA|apply bN|apply bD) | exact HB.out)⟩
end Go.Proofs.YtndjbnkmhpbnpaaGreatDoor.Pr
namespace Go.Proofs.YtndjbnkmhpbnpaaGreatDoor.Pr
open Go.RowKit Go.Proofs.YtndjbnkmhpbnpaaGreatDoorW.PrintWords Go.Proofs.YtndjbnkmhpbnpaaGreatDoorW.PrintLast Go.Proofs.YtndjbnkmhpbnpaaGreatDoorW.PrintMore
theorem ofLives_told (a0 : ByteArray) (hs : a0.size ≤ 1048576) : impl_LivesOf.f a0 = some (if (toldOf a0).2.2 = true then (lvs (toldOf a0).1, true) else ([], false)) := by
 obtain ⟨m, l, g, hm, hl⟩ := told_good a0
 unfold impl_LivesOf.f
 rw [told_f a0 hs, Option.bind_some]
 split
 ·rw [hm, lives_told g (by omega), Option.bind_some]
 ·rfl
end Go.Proofs.YtndjbnkmhpbnpaaGreatDoor.Pr
namespace Go.Proofs.YtndjbnkmhpbnpaaGreatDoor.Pr
open Go.RowKit Go.Proofs.YtndjbnkmhpbnpaaGreatDoorW.PrintWords Go.Proofs.YtndjbnkmhpbnpaaGreatDoorW.PrintLast Go.Proofs.YtndjbnkmhpbnpaaGreatDoorW.PrintMore
set_option linter.unusedVariables false
set_option linter.unusedSimpArgs false
theorem elSame_go (xs : List Int) (hx : xs.length ≤ 1000000) : ∀ (d i : Nat), i + d = xs.length → Ev (fun k => laws_elSame.l0 k xs xs (xs.length : Int) (i : Int)) true
 | 0, i, hi => by
  refine Ev.step (fun k => laws_elSame.l0.eq_2 (k := k) ..) ?_
  simp only [if_neg (show ¬ ((i : Int) < (xs.length : Int)) by omega), beq_self_eq_true]
  exact Ev.now _
 | d + 1, i, hi => by
  have ih := elSame_go xs hx d (i + 1) (by omega)
  refine Ev.step (fun k => laws_elSame.l0.eq_2 (k := k) ..) ?_
  simp only [if_pos (show ((i : Int) < (xs.length : Int)) by omega), if_pos (show (0 : Int) ≤ (i : Int) by omega), if_true, wrap_up (show i ≤ 1000000000 by omega)]
  exact ih
theorem elSame_ev (xs : List Int) (hx : xs.length ≤ 1000000) : Ev (fun k => laws_elSame.f k xs xs) true := by
 unfold laws_elSame.f
 have : mn (xs.length : Int) (xs.length : Int) = (xs.length : Int) := by unfold mn; split <;> rfl
 rw [this]
 exact elSame_go xs hx xs.length 0 (Nat.zero_add _)
end Go.Proofs.YtndjbnkmhpbnpaaGreatDoor.Pr
namespace Go.Proofs.YtndjbnkmhpbnpaaGreatDoor.Pr
open Go.RowKit Go.Proofs.YtndjbnkmhpbnpaaGreatDoorW.PrintWords Go.Proofs.YtndjbnkmhpbnpaaGreatDoorW.PrintLast Go.Proofs.YtndjbnkmhpbnpaaGreatDoorW.PrintMore
attribute [local go_sem] max2_int min2_int max_two min_two max_three min_three max_four min_four   -- for this text's walks alone
set_option linter.unusedVariables false
set_option linter.unusedSimpArgs false
mutual
def laws_FnReuses.j0 : Nat → ByteArray → List Int → Bool → List Int → Bool → ByteArray → Bool → ByteArray → Bool → Bool → Option (Bool)
 | 0, _, _, _, _, _, _, _, _, _, _ => none
 | k + 1, x3, x4, x5, x6, x7, x8, x9, x10, x11, x72 => if x72 = true then ((laws_elSame.f k x4 x6).bind fun t585 => (if t585 = true then (if (x5 == x7) = true then (if x8.toList = x10.toList then (if (x9 == x11) = true then (some (x9 == x5)) else (some false)) else (some false)) else (some false)) else (some false))) else ((impl_LivesOf.f x3).bind fun bt586 => ((laws_elWords.f k x3).bind fun t590 => (laws_FnReuses.l0 k x3 x4 x8 bt586.1 t590 x4 (x4.length : Int) 0)))
def laws_FnReuses.l0 : Nat → ByteArray → List Int → ByteArray → List (S31) → List ByteArray → List Int → Int → Int → Option (Bool)
 | 0, _, _, _, _, _, _, _, _ => none
 | k + 1, x3, x4, x8, x12, x14, x103, x104, x105 => if x105 < x104 then (if 0 ≤ x105 then (if x105 < (x103.length : Int) then (if 0 ≤ (wrap64 ((rd x103 x105) - 1)) then (if (wrap64 ((rd x103 x105) - 1)) < (x12.length : Int) then (if ((rd_T31 x12 (wrap64 ((rd x103 x105) - 1))).f0) < 1 then (some false) else (if 0 ≤ (wrap64 (((rd_T31 x12 (wrap64 ((rd x103 x105) - 1))).f0) - 1)) then (if (wrap64 (((rd_T31 x12 (wrap64 ((rd x103 x105) - 1))).f0) - 1)) < (x14.length : Int) then (if 0 ≤ 1 then (if 1 ≤ ((rdOf ByteArray.empty x14 (wrap64 (((rd_T31 x12 (wrap64 ((rd x103 x105) - 1))).f0) - 1))).size : Int) then (if ((rdOf ByteArray.empty x14 (wrap64 (((rd_T31 x12 (wrap64 ((rd x103 x105) - 1))).f0) - 1))).extract 0 1).toList = ([45] : List UInt8) then (if x105 > 0 then (if 0 ≤ (wrap64 (x105 - 1)) then (if (wrap64 (x105 - 1)) < (x4.length : Int) then (if (rd x4 (wrap64 (x105 - 1))) ≥ (rd x103 x105) then (some false) else (laws_FnReuses.l0 k x3 x4 x8 x12 x14 x103 x104 (wrap64 (x105 + 1)))) else (none)) else (none)) else (laws_FnReuses.l0 k x3 x4 x8 x12 x14 x103 x104 (wrap64 (x105 + 1)))) else (some false)) else (none)) else (none)) else (none)) else (none))) else (none)) else (none)) else (none)) else (none)) else (laws_FnReuses.l1 k x3 x8 x14 1 (x8.size : Int) 0)
def laws_FnReuses.l1 : Nat → ByteArray → ByteArray → List ByteArray → Int → Int → Int → Option (Bool)
 | 0, _, _, _, _, _, _ => none
 | k + 1, x3, x8, x14, x18, x142, x143 => if x143 < x142 then (if 0 ≤ x143 then (if x143 < (x8.size : Int) then (if (bt x8 x143) = 59 then (laws_FnReuses.l1 k x3 x8 x14 (wrap64 (x18 + 1)) x142 (wrap64 (x143 + 1))) else (laws_FnReuses.l1 k x3 x8 x14 x18 x142 (wrap64 (x143 + 1)))) else (none)) else (none)) else (if x3.toList = ([45] : List UInt8) then (if x8.toList = ([45] : List UInt8) then (some true) else (some (x18 == (x14.length : Int)))) else (some (x18 == (x14.length : Int))))
end
def laws_FnReuses.f (k : Nat) (a0 : ByteArray) : Option (Bool) := if (a0.size : Int) > 1048576 then (some true) else ((impl_ReusesOf.f k a0).bind fun bt572 => ((spec_ReusesOf.f k a0).bind fun bt576 => ((impl_CellsText.f k a0).bind fun bt580 => ((spec_CellsText.f k a0).bind fun bt582 => ((laws_elSame.f k bt572.1 bt576.1).bind fun t584 => (if t584 = true then (if (bt572.2 != bt576.2) = true then (laws_FnReuses.j0 k a0 bt572.1 bt572.2 bt576.1 bt576.2 bt580.1 bt580.2 bt582.1 bt582.2 true) else (if bt580.1.toList = bt582.1.toList then (if (bt580.2 != bt582.2) = true then (laws_FnReuses.j0 k a0 bt572.1 bt572.2 bt576.1 bt576.2 bt580.1 bt580.2 bt582.1 bt582.2 true) else (if (bt580.2 != bt572.2) = true then (laws_FnReuses.j0 k a0 bt572.1 bt572.2 bt576.1 bt576.2 bt580.1 bt580.2 bt582.1 bt582.2 true) else (laws_FnReuses.j0 k a0 bt572.1 bt572.2 bt576.1 bt576.2 bt580.1 bt580.2 bt582.1 bt582.2 (!bt572.2)))) else (laws_FnReuses.j0 k a0 bt572.1 bt572.2 bt576.1 bt576.2 bt580.1 bt580.2 bt582.1 bt582.2 true))) else (laws_FnReuses.j0 k a0 bt572.1 bt572.2 bt576.1 bt576.2 bt580.1 bt580.2 bt582.1 bt582.2 true)))))))
set_option maxHeartbeats 8000000 in
set_option maxRecDepth 100000 in
theorem laws_FnReuses.calls (w : World) (v : Value) (n : Nat) (xs : Nat → Int) (hv : BArg w v n xs) (hn : n ≤ 1048576) (hLd : LaidW w) (r : Bool) (P : ∀ a0 : ByteArray, a0.size ≤ 900000 → ∃ k, laws_FnReuses.f k a0 = some r) :
  Calls Tryz.prog 5 #[v] w fun e w' => e = .returned (.bool r) ∧ Below w.heap.size w w' := by
 have HLd := Az.mk hLd
 have HP := Az.mk P
 clear hLd P
 obtain ⟨A0, c0, rfl⟩ : ∃ A c, v = .slice A n c := by
  rcases hv with ⟨rfl, rfl⟩ | ⟨a, cap, rfl, _⟩
  ·exact ⟨none, 0, rfl⟩
  ·exact ⟨some a, cap, rfl⟩
 have HV := Az.mk hv
 have hnb : decide ((1048576 : Int) < (n : Int)) = false := by simp; omega
 clear hv
 go_enter Tryz.func5, Tryz.ntmps5
 go_wp2_with fail
 refine (drawReuses_any w _ n xs HV.out hn).mono ?_
 rintro e w1 ⟨a0, ha0, rfl, hb0⟩
 obtain ⟨k, h⟩ := HP.out a0 ha0
 have HB := Az.mk hb0
 clear hb0 hnb
 have H : (if (a0.size : Int) > 1048576 then (some true) else ((impl_ReusesOf.f k a0).bind fun bt572 => ((spec_ReusesOf.f k a0).bind fun bt576 => ((impl_CellsText.f k a0).bind fun bt580 => ((spec_CellsText.f k a0).bind fun bt582 => ((laws_elSame.f k bt572.1 bt576.1).bind fun t584 => (if t584 = true then (if (bt572.2 != bt576.2) = true then (laws_FnReuses.j0 k a0 bt572.1 bt572.2 bt576.1 bt576.2 bt580.1 bt580.2 bt582.1 bt582.2 true) else (if bt580.1.toList = bt582.1.toList then (if (bt580.2 != bt582.2) = true then (laws_FnReuses.j0 k a0 bt572.1 bt572.2 bt576.1 bt576.2 bt580.1 bt580.2 bt582.1 bt582.2 true) else (if (bt580.2 != bt572.2) = true then (laws_FnReuses.j0 k a0 bt572.1 bt572.2 bt576.1 bt576.2 bt580.1 bt580.2 bt582.1 bt582.2 true) else (laws_FnReuses.j0 k a0 bt572.1 bt572.2 bt576.1 bt576.2 bt580.1 bt580.2 bt582.1 bt582.2 (!bt572.2)))) else (laws_FnReuses.j0 k a0 bt572.1 bt572.2 bt576.1 bt576.2 bt580.1 bt580.2 bt582.1 bt582.2 true))) else (laws_FnReuses.j0 k a0 bt572.1 bt572.2 bt576.1 bt576.2 bt580.1 bt580.2 bt582.1 bt582.2 true)))))))) = some r := h
 clear h
 by_cases c2 : (a0.size : Int) > 1048576
 ·exfalso; omega
 ·rw [if_neg c2] at H
  have c2b0 : decide (1048576 < (a0.size : Int)) = false := decide_eq_false c2
  have c2b1 : decide (1048576 < a0.size) = false := decide_eq_false (by omega)
  clear c2
  replace H := Option.bind_eq_some_iff.mp H
  obtain ⟨⟨t572, t573⟩, A30, H⟩ := H
  replace H : ((spec_ReusesOf.f k a0).bind fun bt576 => ((impl_CellsText.f k a0).bind fun bt580 => ((spec_CellsText.f k a0).bind fun bt582 => ((laws_elSame.f k t572 bt576.1).bind fun t584 => (if t584 = true then (if (t573 != bt576.2) = true then (laws_FnReuses.j0 k a0 t572 t573 bt576.1 bt576.2 bt580.1 bt580.2 bt582.1 bt582.2 true) else (if bt580.1.toList = bt582.1.toList then (if (bt580.2 != bt582.2) = true then (laws_FnReuses.j0 k a0 t572 t573 bt576.1 bt576.2 bt580.1 bt580.2 bt582.1 bt582.2 true) else (if (bt580.2 != t573) = true then (laws_FnReuses.j0 k a0 t572 t573 bt576.1 bt576.2 bt580.1 bt580.2 bt582.1 bt582.2 true) else (laws_FnReuses.j0 k a0 t572 t573 bt576.1 bt576.2 bt580.1 bt580.2 bt582.1 bt582.2 (!t573)))) else (laws_FnReuses.j0 k a0 t572 t573 bt576.1 bt576.2 bt580.1 bt580.2 bt582.1 bt582.2 true))) else (laws_FnReuses.j0 k a0 t572 t573 bt576.1 bt576.2 bt580.1 bt580.2 bt582.1 bt582.2 true)))))) = some r := H
  have A3 := Az.mk A30
  clear A30
  replace H := Option.bind_eq_some_iff.mp H
  obtain ⟨⟨t576, t577⟩, A40, H⟩ := H
  replace H : ((impl_CellsText.f k a0).bind fun bt580 => ((spec_CellsText.f k a0).bind fun bt582 => ((laws_elSame.f k t572 t576).bind fun t584 => (if t584 = true then (if (t573 != t577) = true then (laws_FnReuses.j0 k a0 t572 t573 t576 t577 bt580.1 bt580.2 bt582.1 bt582.2 true) else (if bt580.1.toList = bt582.1.toList then (if (bt580.2 != bt582.2) = true then (laws_FnReuses.j0 k a0 t572 t573 t576 t577 bt580.1 bt580.2 bt582.1 bt582.2 true) else (if (bt580.2 != t573) = true then (laws_FnReuses.j0 k a0 t572 t573 t576 t577 bt580.1 bt580.2 bt582.1 bt582.2 true) else (laws_FnReuses.j0 k a0 t572 t573 t576 t577 bt580.1 bt580.2 bt582.1 bt582.2 (!t573)))) else (laws_FnReuses.j0 k a0 t572 t573 t576 t577 bt580.1 bt580.2 bt582.1 bt582.2 true))) else (laws_FnReuses.j0 k a0 t572 t573 t576 t577 bt580.1 bt580.2 bt582.1 bt582.2 true))))) = some r := H
  have A4 := Az.mk A40
  clear A40
  replace H := Option.bind_eq_some_iff.mp H
  obtain ⟨⟨t580, t581⟩, A50, H⟩ := H
  replace H : ((spec_CellsText.f k a0).bind fun bt582 => ((laws_elSame.f k t572 t576).bind fun t584 => (if t584 = true then (if (t573 != t577) = true then (laws_FnReuses.j0 k a0 t572 t573 t576 t577 t580 t581 bt582.1 bt582.2 true) else (if t580.toList = bt582.1.toList then (if (t581 != bt582.2) = true then (laws_FnReuses.j0 k a0 t572 t573 t576 t577 t580 t581 bt582.1 bt582.2 true) else (if (t581 != t573) = true then (laws_FnReuses.j0 k a0 t572 t573 t576 t577 t580 t581 bt582.1 bt582.2 true) else (laws_FnReuses.j0 k a0 t572 t573 t576 t577 t580 t581 bt582.1 bt582.2 (!t573)))) else (laws_FnReuses.j0 k a0 t572 t573 t576 t577 t580 t581 bt582.1 bt582.2 true))) else (laws_FnReuses.j0 k a0 t572 t573 t576 t577 t580 t581 bt582.1 bt582.2 true)))) = some r := H
  have A5 := Az.mk A50
  clear A50
  replace H := Option.bind_eq_some_iff.mp H
  obtain ⟨⟨t582, t583⟩, A60, H⟩ := H
  replace H : ((laws_elSame.f k t572 t576).bind fun t584 => (if t584 = true then (if (t573 != t577) = true then (laws_FnReuses.j0 k a0 t572 t573 t576 t577 t580 t581 t582 t583 true) else (if t580.toList = t582.toList then (if (t581 != t583) = true then (laws_FnReuses.j0 k a0 t572 t573 t576 t577 t580 t581 t582 t583 true) else (if (t581 != t573) = true then (laws_FnReuses.j0 k a0 t572 t573 t576 t577 t580 t581 t582 t583 true) else (laws_FnReuses.j0 k a0 t572 t573 t576 t577 t580 t581 t582 t583 (!t573)))) else (laws_FnReuses.j0 k a0 t572 t573 t576 t577 t580 t581 t582 t583 true))) else (laws_FnReuses.j0 k a0 t572 t573 t576 t577 t580 t581 t582 t583 true))) = some r := H
  have A6 := Az.mk A60
  clear A60
  have HC7 := Az.mk H
  clear H
  go_upto_region 8 with (first | ((with_reducible refine gate_callee (f := 29) rfl ?_); refine goesL_ (some 27) rfl rfl Tryz.func29 (by kernel_rfl) rfl #[.string a0] rfl (by (try simp only [List.map_toArray, List.map_cons, List.map_nil]); first | done | rfl | (simp only [List.length_drop, List.length_take]; rfl)) ?_; (with_reducible refine (impl_ReusesOf.calls k a0 t572 t573 _ (HLd.out.below (by repeat first|exact HB.out|apply bA|apply bN|apply bD)) A3.out).mono ?_); rintro e w8 ⟨v574, rfl, ho0, hb⟩; refine ⟨_, rfl, ?_⟩; have n0_ := Az.mk (Kd.R_lower ho0 (bZ (by repeat first|exact HB.out|apply bA|apply bN|apply bD))); have n1_ := Az.mk (bS (by repeat first|exact HB.out|apply bA|apply bN|apply bD) hb); clear HB; have HO575 := n0_; have HB := n1_; clear n0_ n1_; (try clear hb); (try clear hb2); (try clear hk); (try clear hi); (try clear ho0)) | ((with_reducible refine gate_callee (f := 30) rfl ?_); refine goesL_ (some 32) rfl rfl Tryz.func30 (by kernel_rfl) rfl #[.string a0] rfl (by (try simp only [List.map_toArray, List.map_cons, List.map_nil]); first | done | rfl | (simp only [List.length_drop, List.length_take]; rfl)) ?_; (with_reducible refine (spec_ReusesOf.calls k a0 t576 t577 _ A4.out).mono ?_); rintro e w9 ⟨v578, rfl, ho0, hb⟩; refine ⟨_, rfl, ?_⟩; have n0_ := Az.mk (Kd.R_elder' (by (with_reducible repeat first|apply Kd.Ra|apply Kd.Rn|apply Kd.Rw); exact HO575.out) (Kd.R_base ho0) hb); have n1_ := Az.mk (Kd.R_lower (Kd.R_new' ho0 (Kd.R_lt (by (with_reducible repeat first|apply Kd.Ra|apply Kd.Rn|apply Kd.Rw); exact HO575.out))) (bZ (by repeat first|exact HB.out|apply bA|apply bN|apply bD))); have n2_ := Az.mk (bS (by repeat first|exact HB.out|apply bA|apply bN|apply bD) hb); clear HO575; clear HB; have HO575 := n0_; have HO579 := n1_; have HB := n2_; clear n0_ n1_ n2_; (try clear hb); (try clear hb2); (try clear hk); (try clear hi); (try clear ho0)) | ((with_reducible refine gate_callee (f := 31) rfl ?_); refine goesL_ (some 37) rfl rfl Tryz.func31 (by kernel_rfl) rfl #[.string a0] rfl (by (try simp only [List.map_toArray, List.map_cons, List.map_nil]); first | done | rfl | (simp only [List.length_drop, List.length_take]; rfl)) ?_; (with_reducible refine (impl_CellsText.calls k a0 t580 t581 _ (HLd.out.below (by repeat first|exact HB.out|apply bA|apply bN|apply bD)) A5.out).mono ?_); rintro e w10 ⟨rfl, hb⟩; refine ⟨_, rfl, ?_⟩; have n0_ := Az.mk (Kd.Rb (by (with_reducible repeat first|apply Kd.Ra|apply Kd.Rn|apply Kd.Rw); exact HO575.out) hb); have n1_ := Az.mk (Kd.Rb (by (with_reducible repeat first|apply Kd.Ra|apply Kd.Rn|apply Kd.Rw); exact HO579.out) hb); have n2_ := Az.mk (bS (by repeat first|exact HB.out|apply bA|apply bN|apply bD) hb); clear HO575; clear HO579; clear HB; have HO575 := n0_; have HO579 := n1_; have HB := n2_; clear n0_ n1_ n2_; (try clear hb); (try clear hb2); (try clear hk); (try clear hi)) | ((with_reducible refine gate_callee (f := 32) rfl ?_); refine goesL_ (some 42) rfl rfl Tryz.func32 (by kernel_rfl) rfl #[.string a0] rfl (by (try simp only [List.map_toArray, List.map_cons, List.map_nil]); first | done | rfl | (simp only [List.length_drop, List.length_take]; rfl)) ?_; (with_reducible refine (spec_CellsText.calls k a0 t582 t583 _ A6.out).mono ?_); rintro e w11 ⟨rfl, hb⟩; refine ⟨_, rfl, ?_⟩; have n0_ := Az.mk (Kd.Rb (by (with_reducible repeat first|apply Kd.Ra|apply Kd.Rn|apply Kd.Rw); exact HO575.out) hb); have n1_ := Az.mk (Kd.Rb (by (with_reducible repeat first|apply Kd.Ra|apply Kd.Rn|apply Kd.Rw); exact HO579.out) hb); have n2_ := Az.mk (bS (by repeat first|exact HB.out|apply bA|apply bN|apply bD) hb); clear HO575; clear HO579; clear HB; have HO575 := n0_; have HO579 := n1_; have HB := n2_; clear n0_ n1_ n2_; (try clear hb); (try clear hb2); (try clear hk); (try clear hi)))
  (try simp only [Act.put, List.setIfInBounds_toArray, List.set_cons_zero, List.set_cons_succ])
  go_cut [72] (fun v72 wc => ∃ (kq : Nat) (x72_6 : Bool), v72 = .bool x72_6 ∧ Az (laws_FnReuses.j0 kq a0 t572 t573 t576 t577 t580 t581 t582 t583 x72_6 = some r) ∧ Az (kq ≤ k) ∧ Az (Kd.R (Kd.int .i64) 3 wc w.heap.size (fun k_ => some k_ ≠ (v578 : Value).ownBlock) v574 t572) ∧ Az (Kd.R (Kd.int .i64) 3 wc w.heap.size (fun k_ => some k_ ≠ (v574 : Value).ownBlock) v578 t576) ∧ Az (Below w.heap.size w wc))
  case first =>
   have H := HC7.out
   clear HC7
   replace H := Option.bind_eq_some_iff.mp H
   obtain ⟨t584, A120, H⟩ := H
   replace H : (if t584 = true then (if (t573 != t577) = true then (laws_FnReuses.j0 k a0 t572 t573 t576 t577 t580 t581 t582 t583 true) else (if t580.toList = t582.toList then (if (t581 != t583) = true then (laws_FnReuses.j0 k a0 t572 t573 t576 t577 t580 t581 t582 t583 true) else (if (t581 != t573) = true then (laws_FnReuses.j0 k a0 t572 t573 t576 t577 t580 t581 t582 t583 true) else (laws_FnReuses.j0 k a0 t572 t573 t576 t577 t580 t581 t582 t583 (!t573)))) else (laws_FnReuses.j0 k a0 t572 t573 t576 t577 t580 t581 t582 t583 true))) else (laws_FnReuses.j0 k a0 t572 t573 t576 t577 t580 t581 t582 t583 true)) = some r := H
   have A12 := Az.mk A120
   clear A120
   by_cases c13 : t584 = true
   ·subst c13
    have H1 : (if (t573 != t577) = true then (laws_FnReuses.j0 k a0 t572 t573 t576 t577 t580 t581 t582 t583 true) else (if t580.toList = t582.toList then (if (t581 != t583) = true then (laws_FnReuses.j0 k a0 t572 t573 t576 t577 t580 t581 t582 t583 true) else (if (t581 != t573) = true then (laws_FnReuses.j0 k a0 t572 t573 t576 t577 t580 t581 t582 t583 true) else (laws_FnReuses.j0 k a0 t572 t573 t576 t577 t580 t581 t582 t583 (!t573)))) else (laws_FnReuses.j0 k a0 t572 t573 t576 t577 t580 t581 t582 t583 true))) = some r := by rw [if_pos rfl] at H; exact H
    clear H
    have H := H1
    clear H1
    by_cases c14 : (t573 != t577) = true
    ·rw [if_pos c14] at H
     have c14b0 : (t573 != t577) = true := c14
     (try (have c14b1 : decide (t573 = t577) = false := by simpa using c14))
     (try (have c14b2 : (t573 == t577) = false := by simpa using c14))
     (try (have c14b3 : ¬ (t573 = t577) := by simpa using c14))
     clear c14
     (first | rw [c14b0] | (simp only [i64_w, i32_w]; rw [c14b0]) | skip)
     have H' := Az.mk H
     clear H
     obtain ⟨Ao15, co15, eo15⟩ := Kd.R_slice HO575.out
     subst eo15
     obtain ⟨Ao16, co16, eo16⟩ := Kd.R_slice HO579.out
     subst eo16
     go_wp2_with (first | ((with_reducible refine gate_callee (f := 23) rfl ?_); refine goesL_ (some 47) rfl rfl Tryz.func23 (by kernel_rfl) rfl #[.slice Ao15 t572.length co15, .slice Ao16 t576.length co16] rfl (by (try simp only [List.map_toArray, List.map_cons, List.map_nil]); first | done | rfl | (simp only [List.length_drop, List.length_take]; rfl)) ?_; (with_reducible refine (laws_elSame.calls k _ _ t572 _ _ t576 true _ ?side1 ?side2 ?side3 ?side4 A12.out).mono ?_); (case side1 => repeat (first | exact (Kd.R_reads' HO575.out).2.2 | (with_reducible refine Kd.C_alloc ?_ _) | (with_reducible refine Kd.C_drewN ?_ _) | (with_reducible refine Kd.C_drew ?_))); (case side2 => exact (Kd.R_reads' HO575.out).2.1); (case side3 => repeat (first | exact (Kd.R_reads' HO579.out).2.2 | (with_reducible refine Kd.C_alloc ?_ _) | (with_reducible refine Kd.C_drewN ?_ _) | (with_reducible refine Kd.C_drew ?_))); (case side4 => exact (Kd.R_reads' HO579.out).2.1); rintro e w17 ⟨rfl, hb⟩; refine ⟨_, rfl, ?_⟩; have n0_ := Az.mk (Kd.Rb (by (with_reducible repeat first|apply Kd.Ra|apply Kd.Rn|apply Kd.Rw); exact HO575.out) hb); have n1_ := Az.mk (Kd.Rb (by (with_reducible repeat first|apply Kd.Ra|apply Kd.Rn|apply Kd.Rw); exact HO579.out) hb); have n2_ := Az.mk (bS (by repeat first|exact HB.out|apply bA|apply bN|apply bD) hb); clear HO575; clear HO579; clear HB; have HO575 := n0_; have HO579 := n1_; have HB := n2_; clear n0_ n1_ n2_; (try clear hb); (try clear hb2); (try clear hk); (try clear hi)))
     go_meet
     case rel => exact ⟨_, (true), (by first | rfl | (simp; done) | (simp [*]; done)), H', ⟨by first | omega | exact Nat.le_refl _⟩, ⟨by (with_reducible repeat first|apply Kd.Ra|apply Kd.Rn|apply Kd.Rw); exact Kd.R_mono HO575.out (fun _ hk => hk.2)⟩, ⟨by (with_reducible repeat first|apply Kd.Ra|apply Kd.Rn|apply Kd.Rw); exact Kd.R_mono HO579.out (fun _ hk => hk.2)⟩, ⟨by repeat (first | (with_reducible first|exact HB.out|apply bA|apply bN|apply bD) | exact HB.out)⟩⟩
    ·rw [if_neg c14] at H
     have c14b0 : (t573 != t577) = false := by simpa using c14
     (try (have c14b1 : decide (t573 = t577) = true := by simpa using c14))
     (try (have c14b2 : (t573 == t577) = true := by simpa using c14))
     clear c14
     (first | rw [c14b0] | (simp only [i64_w, i32_w]; rw [c14b0]) | skip)
     by_cases c18 : t580.toList = t582.toList
     ·rw [if_pos c18] at H
      have c18b0 : (t580.toList == t582.toList) = true := beq_iff_eq.mpr c18
      have c18b1 : (t580.toList != t582.toList) = false := bne_eq_false_iff_eq.mpr c18
      clear c18
      by_cases c19 : (t581 != t583) = true
      ·rw [if_pos c19] at H
       have c19b0 : (t581 != t583) = true := c19
       (try (have c19b1 : decide (t581 = t583) = false := by simpa using c19))
       (try (have c19b2 : (t581 == t583) = false := by simpa using c19))
       (try (have c19b3 : ¬ (t581 = t583) := by simpa using c19))
       clear c19
       have H' := Az.mk H
       clear H
       obtain ⟨Ao20, co20, eo20⟩ := Kd.R_slice HO575.out
       subst eo20
       obtain ⟨Ao21, co21, eo21⟩ := Kd.R_slice HO579.out
       subst eo21
       go_wp2_with (first | ((with_reducible refine gate_callee (f := 23) rfl ?_); refine goesL_ (some 47) rfl rfl Tryz.func23 (by kernel_rfl) rfl #[.slice Ao20 t572.length co20, .slice Ao21 t576.length co21] rfl (by (try simp only [List.map_toArray, List.map_cons, List.map_nil]); first | done | rfl | (simp only [List.length_drop, List.length_take]; rfl)) ?_; (with_reducible refine (laws_elSame.calls k _ _ t572 _ _ t576 true _ ?side1 ?side2 ?side3 ?side4 A12.out).mono ?_); (case side1 => repeat (first | exact (Kd.R_reads' HO575.out).2.2 | (with_reducible refine Kd.C_alloc ?_ _) | (with_reducible refine Kd.C_drewN ?_ _) | (with_reducible refine Kd.C_drew ?_))); (case side2 => exact (Kd.R_reads' HO575.out).2.1); (case side3 => repeat (first | exact (Kd.R_reads' HO579.out).2.2 | (with_reducible refine Kd.C_alloc ?_ _) | (with_reducible refine Kd.C_drewN ?_ _) | (with_reducible refine Kd.C_drew ?_))); (case side4 => exact (Kd.R_reads' HO579.out).2.1); rintro e w22 ⟨rfl, hb⟩; refine ⟨_, rfl, ?_⟩; have n0_ := Az.mk (Kd.Rb (by (with_reducible repeat first|apply Kd.Ra|apply Kd.Rn|apply Kd.Rw); exact HO575.out) hb); have n1_ := Az.mk (Kd.Rb (by (with_reducible repeat first|apply Kd.Ra|apply Kd.Rn|apply Kd.Rw); exact HO579.out) hb); have n2_ := Az.mk (bS (by repeat first|exact HB.out|apply bA|apply bN|apply bD) hb); clear HO575; clear HO579; clear HB; have HO575 := n0_; have HO579 := n1_; have HB := n2_; clear n0_ n1_ n2_; (try clear hb); (try clear hb2); (try clear hk); (try clear hi)))
       go_meet
       case rel => exact ⟨_, (true), (by first | rfl | (simp; done) | (simp [*]; done)), H', ⟨by first | omega | exact Nat.le_refl _⟩, ⟨by (with_reducible repeat first|apply Kd.Ra|apply Kd.Rn|apply Kd.Rw); exact Kd.R_mono HO575.out (fun _ hk => hk.2)⟩, ⟨by (with_reducible repeat first|apply Kd.Ra|apply Kd.Rn|apply Kd.Rw); exact Kd.R_mono HO579.out (fun _ hk => hk.2)⟩, ⟨by repeat (first | (with_reducible first|exact HB.out|apply bA|apply bN|apply bD) | exact HB.out)⟩⟩
      ·rw [if_neg c19] at H
       have c19b0 : (t581 != t583) = false := by simpa using c19
       (try (have c19b1 : decide (t581 = t583) = true := by simpa using c19))
       (try (have c19b2 : (t581 == t583) = true := by simpa using c19))
       clear c19
       by_cases c23 : (t581 != t573) = true
       ·rw [if_pos c23] at H
        have c23b0 : (t581 != t573) = true := c23
        (try (have c23b1 : decide (t581 = t573) = false := by simpa using c23))
        (try (have c23b2 : (t581 == t573) = false := by simpa using c23))
        (try (have c23b3 : ¬ (t581 = t573) := by simpa using c23))
        clear c23
        have H' := Az.mk H
        clear H
        obtain ⟨Ao24, co24, eo24⟩ := Kd.R_slice HO575.out
        subst eo24
        obtain ⟨Ao25, co25, eo25⟩ := Kd.R_slice HO579.out
        subst eo25
        go_wp2_with (first | ((with_reducible refine gate_callee (f := 23) rfl ?_); refine goesL_ (some 47) rfl rfl Tryz.func23 (by kernel_rfl) rfl #[.slice Ao24 t572.length co24, .slice Ao25 t576.length co25] rfl (by (try simp only [List.map_toArray, List.map_cons, List.map_nil]); first | done | rfl | (simp only [List.length_drop, List.length_take]; rfl)) ?_; (with_reducible refine (laws_elSame.calls k _ _ t572 _ _ t576 true _ ?side1 ?side2 ?side3 ?side4 A12.out).mono ?_); (case side1 => repeat (first | exact (Kd.R_reads' HO575.out).2.2 | (with_reducible refine Kd.C_alloc ?_ _) | (with_reducible refine Kd.C_drewN ?_ _) | (with_reducible refine Kd.C_drew ?_))); (case side2 => exact (Kd.R_reads' HO575.out).2.1); (case side3 => repeat (first | exact (Kd.R_reads' HO579.out).2.2 | (with_reducible refine Kd.C_alloc ?_ _) | (with_reducible refine Kd.C_drewN ?_ _) | (with_reducible refine Kd.C_drew ?_))); (case side4 => exact (Kd.R_reads' HO579.out).2.1); rintro e w26 ⟨rfl, hb⟩; refine ⟨_, rfl, ?_⟩; have n0_ := Az.mk (Kd.Rb (by (with_reducible repeat first|apply Kd.Ra|apply Kd.Rn|apply Kd.Rw); exact HO575.out) hb); have n1_ := Az.mk (Kd.Rb (by (with_reducible repeat first|apply Kd.Ra|apply Kd.Rn|apply Kd.Rw); exact HO579.out) hb); have n2_ := Az.mk (bS (by repeat first|exact HB.out|apply bA|apply bN|apply bD) hb); clear HO575; clear HO579; clear HB; have HO575 := n0_; have HO579 := n1_; have HB := n2_; clear n0_ n1_ n2_; (try clear hb); (try clear hb2); (try clear hk); (try clear hi)))
        go_meet
        case rel => exact ⟨_, (true), (by first | rfl | (simp; done) | (simp [*]; done)), H', ⟨by first | omega | exact Nat.le_refl _⟩, ⟨by (with_reducible repeat first|apply Kd.Ra|apply Kd.Rn|apply Kd.Rw); exact Kd.R_mono HO575.out (fun _ hk => hk.2)⟩, ⟨by (with_reducible repeat first|apply Kd.Ra|apply Kd.Rn|apply Kd.Rw); exact Kd.R_mono HO579.out (fun _ hk => hk.2)⟩, ⟨by repeat (first | (with_reducible first|exact HB.out|apply bA|apply bN|apply bD) | exact HB.out)⟩⟩
       ·rw [if_neg c23] at H
        have c23b0 : (t581 != t573) = false := by simpa using c23
        (try (have c23b1 : decide (t581 = t573) = true := by simpa using c23))
        (try (have c23b2 : (t581 == t573) = true := by simpa using c23))
        clear c23
        have H' := Az.mk H
        clear H
        obtain ⟨Ao27, co27, eo27⟩ := Kd.R_slice HO575.out
        subst eo27
        obtain ⟨Ao28, co28, eo28⟩ := Kd.R_slice HO579.out
        subst eo28
        go_wp2_with (first | ((with_reducible refine gate_callee (f := 23) rfl ?_); refine goesL_ (some 47) rfl rfl Tryz.func23 (by kernel_rfl) rfl #[.slice Ao27 t572.length co27, .slice Ao28 t576.length co28] rfl (by (try simp only [List.map_toArray, List.map_cons, List.map_nil]); first | done | rfl | (simp only [List.length_drop, List.length_take]; rfl)) ?_; (with_reducible refine (laws_elSame.calls k _ _ t572 _ _ t576 true _ ?side1 ?side2 ?side3 ?side4 A12.out).mono ?_); (case side1 => repeat (first | exact (Kd.R_reads' HO575.out).2.2 | (with_reducible refine Kd.C_alloc ?_ _) | (with_reducible refine Kd.C_drewN ?_ _) | (with_reducible refine Kd.C_drew ?_))); (case side2 => exact (Kd.R_reads' HO575.out).2.1); (case side3 => repeat (first | exact (Kd.R_reads' HO579.out).2.2 | (with_reducible refine Kd.C_alloc ?_ _) | (with_reducible refine Kd.C_drewN ?_ _) | (with_reducible refine Kd.C_drew ?_))); (case side4 => exact (Kd.R_reads' HO579.out).2.1); rintro e w29 ⟨rfl, hb⟩; refine ⟨_, rfl, ?_⟩; have n0_ := Az.mk (Kd.Rb (by (with_reducible repeat first|apply Kd.Ra|apply Kd.Rn|apply Kd.Rw); exact HO575.out) hb); have n1_ := Az.mk (Kd.Rb (by (with_reducible repeat first|apply Kd.Ra|apply Kd.Rn|apply Kd.Rw); exact HO579.out) hb); have n2_ := Az.mk (bS (by repeat first|exact HB.out|apply bA|apply bN|apply bD) hb); clear HO575; clear HO579; clear HB; have HO575 := n0_; have HO579 := n1_; have HB := n2_; clear n0_ n1_ n2_; (try clear hb); (try clear hb2); (try clear hk); (try clear hi)))
        go_meet
        case rel => exact ⟨_, (!t573), (by first | rfl | (simp; done) | (simp [*]; done)), H', ⟨by first | omega | exact Nat.le_refl _⟩, ⟨by (with_reducible repeat first|apply Kd.Ra|apply Kd.Rn|apply Kd.Rw); exact Kd.R_mono HO575.out (fun _ hk => hk.2)⟩, ⟨by (with_reducible repeat first|apply Kd.Ra|apply Kd.Rn|apply Kd.Rw); exact Kd.R_mono HO579.out (fun _ hk => hk.2)⟩, ⟨by repeat (first | (with_reducible first|exact HB.out|apply bA|apply bN|apply bD) | exact HB.out)⟩⟩
     ·rw [if_neg c18] at H
      have c18b0 : (t580.toList == t582.toList) = false := beq_eq_false_iff_ne.mpr c18
      have c18b1 : (t580.toList != t582.toList) = true := bne_iff_ne.mpr c18
      have H' := Az.mk H
      clear H
      obtain ⟨Ao30, co30, eo30⟩ := Kd.R_slice HO575.out
      subst eo30
      obtain ⟨Ao31, co31, eo31⟩ := Kd.R_slice HO579.out
      subst eo31
      go_wp2_with (first | ((with_reducible refine gate_callee (f := 23) rfl ?_); refine goesL_ (some 47) rfl rfl Tryz.func23 (by kernel_rfl) rfl #[.slice Ao30 t572.length co30, .slice Ao31 t576.length co31] rfl (by (try simp only [List.map_toArray, List.map_cons, List.map_nil]); first | done | rfl | (simp only [List.length_drop, List.length_take]; rfl)) ?_; (with_reducible refine (laws_elSame.calls k _ _ t572 _ _ t576 true _ ?side1 ?side2 ?side3 ?side4 A12.out).mono ?_); (case side1 => repeat (first | exact (Kd.R_reads' HO575.out).2.2 | (with_reducible refine Kd.C_alloc ?_ _) | (with_reducible refine Kd.C_drewN ?_ _) | (with_reducible refine Kd.C_drew ?_))); (case side2 => exact (Kd.R_reads' HO575.out).2.1); (case side3 => repeat (first | exact (Kd.R_reads' HO579.out).2.2 | (with_reducible refine Kd.C_alloc ?_ _) | (with_reducible refine Kd.C_drewN ?_ _) | (with_reducible refine Kd.C_drew ?_))); (case side4 => exact (Kd.R_reads' HO579.out).2.1); rintro e w32 ⟨rfl, hb⟩; refine ⟨_, rfl, ?_⟩; have n0_ := Az.mk (Kd.Rb (by (with_reducible repeat first|apply Kd.Ra|apply Kd.Rn|apply Kd.Rw); exact HO575.out) hb); have n1_ := Az.mk (Kd.Rb (by (with_reducible repeat first|apply Kd.Ra|apply Kd.Rn|apply Kd.Rw); exact HO579.out) hb); have n2_ := Az.mk (bS (by repeat first|exact HB.out|apply bA|apply bN|apply bD) hb); clear HO575; clear HO579; clear HB; have HO575 := n0_; have HO579 := n1_; have HB := n2_; clear n0_ n1_ n2_; (try clear hb); (try clear hb2); (try clear hk); (try clear hi)))
      go_meet
      case rel => exact ⟨_, (true), (by first | rfl | (simp; done) | (simp [*]; done)), H', ⟨by first | omega | exact Nat.le_refl _⟩, ⟨by (with_reducible repeat first|apply Kd.Ra|apply Kd.Rn|apply Kd.Rw); exact Kd.R_mono HO575.out (fun _ hk => hk.2)⟩, ⟨by (with_reducible repeat first|apply Kd.Ra|apply Kd.Rn|apply Kd.Rw); exact Kd.R_mono HO579.out (fun _ hk => hk.2)⟩, ⟨by repeat (first | (with_reducible first|exact HB.out|apply bA|apply bN|apply bD) | exact HB.out)⟩⟩
   ·replace c13 := Bool.eq_false_iff.mpr c13
    subst c13
    have H1 : (laws_FnReuses.j0 k a0 t572 t573 t576 t577 t580 t581 t582 t583 true) = some r := by rw [if_neg (show ¬ (false = true) by decide)] at H; exact H
    clear H
    have H := H1
    clear H1
    have H' := Az.mk H
    clear H
    obtain ⟨Ao33, co33, eo33⟩ := Kd.R_slice HO575.out
    subst eo33
    obtain ⟨Ao34, co34, eo34⟩ := Kd.R_slice HO579.out
    subst eo34
    go_wp2_with (first | ((with_reducible refine gate_callee (f := 23) rfl ?_); refine goesL_ (some 47) rfl rfl Tryz.func23 (by kernel_rfl) rfl #[.slice Ao33 t572.length co33, .slice Ao34 t576.length co34] rfl (by (try simp only [List.map_toArray, List.map_cons, List.map_nil]); first | done | rfl | (simp only [List.length_drop, List.length_take]; rfl)) ?_; (with_reducible refine (laws_elSame.calls k _ _ t572 _ _ t576 false _ ?side1 ?side2 ?side3 ?side4 A12.out).mono ?_); (case side1 => repeat (first | exact (Kd.R_reads' HO575.out).2.2 | (with_reducible refine Kd.C_alloc ?_ _) | (with_reducible refine Kd.C_drewN ?_ _) | (with_reducible refine Kd.C_drew ?_))); (case side2 => exact (Kd.R_reads' HO575.out).2.1); (case side3 => repeat (first | exact (Kd.R_reads' HO579.out).2.2 | (with_reducible refine Kd.C_alloc ?_ _) | (with_reducible refine Kd.C_drewN ?_ _) | (with_reducible refine Kd.C_drew ?_))); (case side4 => exact (Kd.R_reads' HO579.out).2.1); rintro e w35 ⟨rfl, hb⟩; refine ⟨_, rfl, ?_⟩; have n0_ := Az.mk (Kd.Rb (by (with_reducible repeat first|apply Kd.Ra|apply Kd.Rn|apply Kd.Rw); exact HO575.out) hb); have n1_ := Az.mk (Kd.Rb (by (with_reducible repeat first|apply Kd.Ra|apply Kd.Rn|apply Kd.Rw); exact HO579.out) hb); have n2_ := Az.mk (bS (by repeat first|exact HB.out|apply bA|apply bN|apply bD) hb); clear HO575; clear HO579; clear HB; have HO575 := n0_; have HO579 := n1_; have HB := n2_; clear n0_ n1_ n2_; (try clear hb); (try clear hb2); (try clear hk); (try clear hi)))
    go_meet
    case rel => exact ⟨_, (true), (by first | rfl | (simp; done) | (simp [*]; done)), H', ⟨by first | omega | exact Nat.le_refl _⟩, ⟨by (with_reducible repeat first|apply Kd.Ra|apply Kd.Rn|apply Kd.Rw); exact Kd.R_mono HO575.out (fun _ hk => hk.2)⟩, ⟨by (with_reducible repeat first|apply Kd.Ra|apply Kd.Rn|apply Kd.Rw); exact Kd.R_mono HO579.out (fun _ hk => hk.2)⟩, ⟨by repeat (first | (with_reducible first|exact HB.out|apply bA|apply bN|apply bD) | exact HB.out)⟩⟩
  case rest =>
   clear HC7
   try clear c1
   try clear c2
   try clear c2b0
   try clear c2b1
   try clear p2
   try clear c3
   try clear c5
   try clear c13
   try clear c14
   try clear c14b0
   try clear c14b1
   try clear c14b2
   try clear c18
   try clear c18b0
   try clear c18b1
   try clear c19
   try clear c19b0
   try clear c19b1
   try clear c19b2
   try clear c23
   try clear c23b0
   try clear c23b1
   try clear c23b2
   try clear c29
   try clear c30
   try clear c31
   try clear c32
   obtain ⟨kq, x72_6, rfl, HA, HJ6, HO_4, HO_6, HB⟩ := hcut
   cases kq with
   | zero => exact absurd HA.out (by simp [laws_FnReuses.j0])
   | succ kj6 =>
    have H := HA.out
    clear HA
    simp only [laws_FnReuses.j0] at H
    by_cases c36 : x72_6 = true
    ·subst c36
     have H1 : ((laws_elSame.f kj6 t572 t576).bind fun t585 => (if t585 = true then (if (t573 == t577) = true then (if t580.toList = t582.toList then (if (t581 == t583) = true then (some (t581 == t573)) else (some false)) else (some false)) else (some false)) else (some false))) = some r := by rw [if_pos rfl] at H; exact H
     clear H
     have H := H1
     clear H1
     replace H := Option.bind_eq_some_iff.mp H
     obtain ⟨t585, A370, H⟩ := H
     replace H : (if t585 = true then (if (t573 == t577) = true then (if t580.toList = t582.toList then (if (t581 == t583) = true then (some (t581 == t573)) else (some false)) else (some false)) else (some false)) else (some false)) = some r := H
     have A37 := Az.mk A370
     clear A370
     by_cases c38 : t585 = true
     ·subst c38
      have H1 : (if (t573 == t577) = true then (if t580.toList = t582.toList then (if (t581 == t583) = true then (some (t581 == t573)) else (some false)) else (some false)) else (some false)) = some r := by rw [if_pos rfl] at H; exact H
      clear H
      have H := H1
      clear H1
      by_cases c39 : (t573 == t577) = true
      ·rw [if_pos c39] at H
       have c39b0 : (t573 == t577) = true := c39
       (try (have c39b1 : decide (t573 = t577) = true := by simpa using c39))
       (try (have c39b2 : (t573 == t577) = true := by simpa using c39))
       clear c39
       by_cases c40 : t580.toList = t582.toList
       ·rw [if_pos c40] at H
        have c40b0 : (t580.toList == t582.toList) = true := beq_iff_eq.mpr c40
        have c40b1 : (t580.toList != t582.toList) = false := bne_eq_false_iff_eq.mpr c40
        clear c40
        by_cases c41 : (t581 == t583) = true
        ·rw [if_pos c41] at H
         have c41b0 : (t581 == t583) = true := c41
         (try (have c41b1 : decide (t581 = t583) = true := by simpa using c41))
         (try (have c41b2 : (t581 == t583) = true := by simpa using c41))
         clear c41
         obtain rfl := Option.some.inj H
         obtain ⟨Ao42, co42, eo42⟩ := Kd.R_slice HO_4.out
         subst eo42
         obtain ⟨Ao43, co43, eo43⟩ := Kd.R_slice HO_6.out
         subst eo43
         go_wp2_with (first | ((with_reducible refine gate_callee (f := 23) rfl ?_); refine goesL_ (some 75) rfl rfl Tryz.func23 (by kernel_rfl) rfl #[.slice Ao42 t572.length co42, .slice Ao43 t576.length co43] rfl (by (try simp only [List.map_toArray, List.map_cons, List.map_nil]); first | done | rfl | (simp only [List.length_drop, List.length_take]; rfl)) ?_; (with_reducible refine (laws_elSame.calls kj6 _ _ t572 _ _ t576 true _ ?side1 ?side2 ?side3 ?side4 A37.out).mono ?_); (case side1 => repeat (first | exact (Kd.R_reads' HO_4.out).2.2 | (with_reducible refine Kd.C_alloc ?_ _) | (with_reducible refine Kd.C_drewN ?_ _) | (with_reducible refine Kd.C_drew ?_))); (case side2 => exact (Kd.R_reads' HO_4.out).2.1); (case side3 => repeat (first | exact (Kd.R_reads' HO_6.out).2.2 | (with_reducible refine Kd.C_alloc ?_ _) | (with_reducible refine Kd.C_drewN ?_ _) | (with_reducible refine Kd.C_drew ?_))); (case side4 => exact (Kd.R_reads' HO_6.out).2.1); rintro e w44 ⟨rfl, hb⟩; refine ⟨_, rfl, ?_⟩; have n0_ := Az.mk (Kd.Rb (by (with_reducible repeat first|apply Kd.Ra|apply Kd.Rn|apply Kd.Rw); exact HO_4.out) hb); have n1_ := Az.mk (Kd.Rb (by (with_reducible repeat first|apply Kd.Ra|apply Kd.Rn|apply Kd.Rw); exact HO_6.out) hb); have n2_ := Az.mk (bS (by repeat first|exact HB.out|apply bA|apply bN|apply bD) hb); clear HO_4; clear HO_6; clear HB; have HO_4 := n0_; have HO_6 := n1_; have HB := n2_; clear n0_ n1_ n2_; (try clear hb); (try clear hb2); (try clear hk); (try clear hi)))
         go_ret
         exact ⟨by first | rfl | (simp [errW_none, errW_some] <;> rfl) | (simp [*, errW_none, errW_some] <;> rfl), by repeat (first | (with_reducible first|exact HB.out|apply bA|apply bN|apply bD) | exact HB.out)⟩
        ·rw [if_neg c41] at H
         have c41b0 : (t581 == t583) = false := by simpa using c41
         (try (have c41b1 : decide (t581 = t583) = false := by simpa using c41))
         (try (have c41b2 : (t581 == t583) = false := by simpa using c41))
         (try (have c41b3 : ¬ (t581 = t583) := by simpa using c41))
         clear c41
         obtain rfl := Option.some.inj H
         obtain ⟨Ao45, co45, eo45⟩ := Kd.R_slice HO_4.out
         subst eo45
         obtain ⟨Ao46, co46, eo46⟩ := Kd.R_slice HO_6.out
         subst eo46
         go_wp2_with (first | ((with_reducible refine gate_callee (f := 23) rfl ?_); refine goesL_ (some 75) rfl rfl Tryz.func23 (by kernel_rfl) rfl #[.slice Ao45 t572.length co45, .slice Ao46 t576.length co46] rfl (by (try simp only [List.map_toArray, List.map_cons, List.map_nil]); first | done | rfl | (simp only [List.length_drop, List.length_take]; rfl)) ?_; (with_reducible refine (laws_elSame.calls kj6 _ _ t572 _ _ t576 true _ ?side1 ?side2 ?side3 ?side4 A37.out).mono ?_); (case side1 => repeat (first | exact (Kd.R_reads' HO_4.out).2.2 | (with_reducible refine Kd.C_alloc ?_ _) | (with_reducible refine Kd.C_drewN ?_ _) | (with_reducible refine Kd.C_drew ?_))); (case side2 => exact (Kd.R_reads' HO_4.out).2.1); (case side3 => repeat (first | exact (Kd.R_reads' HO_6.out).2.2 | (with_reducible refine Kd.C_alloc ?_ _) | (with_reducible refine Kd.C_drewN ?_ _) | (with_reducible refine Kd.C_drew ?_))); (case side4 => exact (Kd.R_reads' HO_6.out).2.1); rintro e w47 ⟨rfl, hb⟩; refine ⟨_, rfl, ?_⟩; have n0_ := Az.mk (Kd.Rb (by (with_reducible repeat first|apply Kd.Ra|apply Kd.Rn|apply Kd.Rw); exact HO_4.out) hb); have n1_ := Az.mk (Kd.Rb (by (with_reducible repeat first|apply Kd.Ra|apply Kd.Rn|apply Kd.Rw); exact HO_6.out) hb); have n2_ := Az.mk (bS (by repeat first|exact HB.out|apply bA|apply bN|apply bD) hb); clear HO_4; clear HO_6; clear HB; have HO_4 := n0_; have HO_6 := n1_; have HB := n2_; clear n0_ n1_ n2_; (try clear hb); (try clear hb2); (try clear hk); (try clear hi)))
         go_ret
         exact ⟨by first | rfl | (simp [errW_none, errW_some] <;> rfl) | (simp [*, errW_none, errW_some] <;> rfl), by repeat (first | (with_reducible first|exact HB.out|apply bA|apply bN|apply bD) | exact HB.out)⟩
       ·rw [if_neg c40] at H
        have c40b0 : (t580.toList == t582.toList) = false := beq_eq_false_iff_ne.mpr c40
        have c40b1 : (t580.toList != t582.toList) = true := bne_iff_ne.mpr c40
        obtain rfl := Option.some.inj H
        obtain ⟨Ao48, co48, eo48⟩ := Kd.R_slice HO_4.out
        subst eo48
        obtain ⟨Ao49, co49, eo49⟩ := Kd.R_slice HO_6.out
        subst eo49
        go_wp2_with (first | ((with_reducible refine gate_callee (f := 23) rfl ?_); refine goesL_ (some 75) rfl rfl Tryz.func23 (by kernel_rfl) rfl #[.slice Ao48 t572.length co48, .slice Ao49 t576.length co49] rfl (by (try simp only [List.map_toArray, List.map_cons, List.map_nil]); first | done | rfl | (simp only [List.length_drop, List.length_take]; rfl)) ?_; (with_reducible refine (laws_elSame.calls kj6 _ _ t572 _ _ t576 true _ ?side1 ?side2 ?side3 ?side4 A37.out).mono ?_); (case side1 => repeat (first | exact (Kd.R_reads' HO_4.out).2.2 | (with_reducible refine Kd.C_alloc ?_ _) | (with_reducible refine Kd.C_drewN ?_ _) | (with_reducible refine Kd.C_drew ?_))); (case side2 => exact (Kd.R_reads' HO_4.out).2.1); (case side3 => repeat (first | exact (Kd.R_reads' HO_6.out).2.2 | (with_reducible refine Kd.C_alloc ?_ _) | (with_reducible refine Kd.C_drewN ?_ _) | (with_reducible refine Kd.C_drew ?_))); (case side4 => exact (Kd.R_reads' HO_6.out).2.1); rintro e w50 ⟨rfl, hb⟩; refine ⟨_, rfl, ?_⟩; have n0_ := Az.mk (Kd.Rb (by (with_reducible repeat first|apply Kd.Ra|apply Kd.Rn|apply Kd.Rw); exact HO_4.out) hb); have n1_ := Az.mk (Kd.Rb (by (with_reducible repeat first|apply Kd.Ra|apply Kd.Rn|apply Kd.Rw); exact HO_6.out) hb); have n2_ := Az.mk (bS (by repeat first|exact HB.out|apply bA|apply bN|apply bD) hb); clear HO_4; clear HO_6; clear HB; have HO_4 := n0_; have HO_6 := n1_; have HB := n2_; clear n0_ n1_ n2_; (try clear hb); (try clear hb2); (try clear hk); (try clear hi)))
        go_ret
        exact ⟨by first | rfl | (simp [errW_none, errW_some] <;> rfl) | (simp [*, errW_none, errW_some] <;> rfl), by repeat (first | (with_reducible first|exact HB.out|apply bA|apply bN|apply bD) | exact HB.out)⟩
      ·rw [if_neg c39] at H
       have c39b0 : (t573 == t577) = false := by simpa using c39
       (try (have c39b1 : decide (t573 = t577) = false := by simpa using c39))
       (try (have c39b2 : (t573 == t577) = false := by simpa using c39))
       (try (have c39b3 : ¬ (t573 = t577) := by simpa using c39))
       clear c39
       obtain rfl := Option.some.inj H
       obtain ⟨Ao51, co51, eo51⟩ := Kd.R_slice HO_4.out
       subst eo51
       obtain ⟨Ao52, co52, eo52⟩ := Kd.R_slice HO_6.out
       subst eo52
       go_wp2_with (first | ((with_reducible refine gate_callee (f := 23) rfl ?_); refine goesL_ (some 75) rfl rfl Tryz.func23 (by kernel_rfl) rfl #[.slice Ao51 t572.length co51, .slice Ao52 t576.length co52] rfl (by (try simp only [List.map_toArray, List.map_cons, List.map_nil]); first | done | rfl | (simp only [List.length_drop, List.length_take]; rfl)) ?_; (with_reducible refine (laws_elSame.calls kj6 _ _ t572 _ _ t576 true _ ?side1 ?side2 ?side3 ?side4 A37.out).mono ?_); (case side1 => repeat (first | exact (Kd.R_reads' HO_4.out).2.2 | (with_reducible refine Kd.C_alloc ?_ _) | (with_reducible refine Kd.C_drewN ?_ _) | (with_reducible refine Kd.C_drew ?_))); (case side2 => exact (Kd.R_reads' HO_4.out).2.1); (case side3 => repeat (first | exact (Kd.R_reads' HO_6.out).2.2 | (with_reducible refine Kd.C_alloc ?_ _) | (with_reducible refine Kd.C_drewN ?_ _) | (with_reducible refine Kd.C_drew ?_))); (case side4 => exact (Kd.R_reads' HO_6.out).2.1); rintro e w53 ⟨rfl, hb⟩; refine ⟨_, rfl, ?_⟩; have n0_ := Az.mk (Kd.Rb (by (with_reducible repeat first|apply Kd.Ra|apply Kd.Rn|apply Kd.Rw); exact HO_4.out) hb); have n1_ := Az.mk (Kd.Rb (by (with_reducible repeat first|apply Kd.Ra|apply Kd.Rn|apply Kd.Rw); exact HO_6.out) hb); have n2_ := Az.mk (bS (by repeat first|exact HB.out|apply bA|apply bN|apply bD) hb); clear HO_4; clear HO_6; clear HB; have HO_4 := n0_; have HO_6 := n1_; have HB := n2_; clear n0_ n1_ n2_; (try clear hb); (try clear hb2); (try clear hk); (try clear hi)))
       go_ret
       exact ⟨by first | rfl | (simp [errW_none, errW_some] <;> rfl) | (simp [*, errW_none, errW_some] <;> rfl), by repeat (first | (with_reducible first|exact HB.out|apply bA|apply bN|apply bD) | exact HB.out)⟩
     ·replace c38 := Bool.eq_false_iff.mpr c38
      subst c38
      have H1 : (some false) = some r := by rw [if_neg (show ¬ (false = true) by decide)] at H; exact H
      clear H
      have H := H1
      clear H1
      obtain rfl := Option.some.inj H
      obtain ⟨Ao54, co54, eo54⟩ := Kd.R_slice HO_4.out
      subst eo54
      obtain ⟨Ao55, co55, eo55⟩ := Kd.R_slice HO_6.out
      subst eo55
      go_wp2_with (first | ((with_reducible refine gate_callee (f := 23) rfl ?_); refine goesL_ (some 75) rfl rfl Tryz.func23 (by kernel_rfl) rfl #[.slice Ao54 t572.length co54, .slice Ao55 t576.length co55] rfl (by (try simp only [List.map_toArray, List.map_cons, List.map_nil]); first | done | rfl | (simp only [List.length_drop, List.length_take]; rfl)) ?_; (with_reducible refine (laws_elSame.calls kj6 _ _ t572 _ _ t576 false _ ?side1 ?side2 ?side3 ?side4 A37.out).mono ?_); (case side1 => repeat (first | exact (Kd.R_reads' HO_4.out).2.2 | (with_reducible refine Kd.C_alloc ?_ _) | (with_reducible refine Kd.C_drewN ?_ _) | (with_reducible refine Kd.C_drew ?_))); (case side2 => exact (Kd.R_reads' HO_4.out).2.1); (case side3 => repeat (first | exact (Kd.R_reads' HO_6.out).2.2 | (with_reducible refine Kd.C_alloc ?_ _) | (with_reducible refine Kd.C_drewN ?_ _) | (with_reducible refine Kd.C_drew ?_))); (case side4 => exact (Kd.R_reads' HO_6.out).2.1); rintro e w56 ⟨rfl, hb⟩; refine ⟨_, rfl, ?_⟩; have n0_ := Az.mk (Kd.Rb (by (with_reducible repeat first|apply Kd.Ra|apply Kd.Rn|apply Kd.Rw); exact HO_4.out) hb); have n1_ := Az.mk (Kd.Rb (by (with_reducible repeat first|apply Kd.Ra|apply Kd.Rn|apply Kd.Rw); exact HO_6.out) hb); have n2_ := Az.mk (bS (by repeat first|exact HB.out|apply bA|apply bN|apply bD) hb); clear HO_4; clear HO_6; clear HB; have HO_4 := n0_; have HO_6 := n1_; have HB := n2_; clear n0_ n1_ n2_; (try clear hb); (try clear hb2); (try clear hk); (try clear hi)))
      go_ret
      exact ⟨by first | rfl | (simp [errW_none, errW_some] <;> rfl) | (simp [*, errW_none, errW_some] <;> rfl), by repeat (first | (with_reducible first|exact HB.out|apply bA|apply bN|apply bD) | exact HB.out)⟩
    ·replace c36 := Bool.eq_false_iff.mpr c36
     subst c36
     have H1 : ((impl_LivesOf.f a0).bind fun bt586 => ((laws_elWords.f kj6 a0).bind fun t590 => (laws_FnReuses.l0 kj6 a0 t572 t580 bt586.1 t590 t572 (t572.length : Int) 0))) = some r := by rw [if_neg (show ¬ (false = true) by decide)] at H; exact H
     clear H
     have H := H1
     clear H1
     replace H := Option.bind_eq_some_iff.mp H
     obtain ⟨⟨t586, t587⟩, A570, H⟩ := H
     replace H : ((laws_elWords.f kj6 a0).bind fun t590 => (laws_FnReuses.l0 kj6 a0 t572 t580 t586 t590 t572 (t572.length : Int) 0)) = some r := H
     have A57 := Az.mk A570
     clear A570
     replace H := Option.bind_eq_some_iff.mp H
     obtain ⟨t590, A580, H⟩ := H
     replace H : (laws_FnReuses.l0 kj6 a0 t572 t580 t586 t590 t572 (t572.length : Int) 0) = some r := H
     have A58 := Az.mk A580
     clear A580
     have H' := Az.mk H
     clear H
     go_wp2_with (first | ((with_reducible refine gate_callee (f := 14) rfl ?_); refine goesL_ (some 98) rfl rfl Tryz.func14 (by kernel_rfl) rfl #[.string a0] rfl (by (try simp only [List.map_toArray, List.map_cons, List.map_nil]); first | done | rfl | (simp only [List.length_drop, List.length_take]; rfl)) ?_; (with_reducible refine (impl_LivesOf.calls a0 t586 t587 _ (HLd.out.below (by repeat first|exact HB.out|apply bA|apply bN|apply bD)) A57.out).mono ?_); rintro e w59 ⟨v588, rfl, ho0, hb⟩; refine ⟨_, rfl, ?_⟩; have n0_ := Az.mk (Kd.Rb (by (with_reducible repeat first|apply Kd.Ra|apply Kd.Rn|apply Kd.Rw); exact HO_4.out) hb); have n1_ := Az.mk (Kd.Rb (by (with_reducible repeat first|apply Kd.Ra|apply Kd.Rn|apply Kd.Rw); exact HO_6.out) hb); have n2_ := Az.mk (Kd.R_lower ho0 (bZ (by repeat first|exact HB.out|apply bA|apply bN|apply bD))); have n3_ := Az.mk (bS (by repeat first|exact HB.out|apply bA|apply bN|apply bD) hb); clear HO_4; clear HO_6; clear HB; have HO_4 := n0_; have HO_6 := n1_; have HO589 := n2_; have HB := n3_; clear n0_ n1_ n2_ n3_; (try clear hb); (try clear hb2); (try clear hk); (try clear hi); (try clear ho0)) | ((with_reducible refine gate_callee (f := 33) rfl ?_); refine goesL_ (some 102) rfl rfl Tryz.func33 (by kernel_rfl) rfl #[.string a0] rfl (by (try simp only [List.map_toArray, List.map_cons, List.map_nil]); first | done | rfl | (simp only [List.length_drop, List.length_take]; rfl)) ?_; (with_reducible refine (laws_elWords.calls kj6 a0 t590 _ A58.out).mono ?_); rintro e w60 ⟨v591, rfl, ho0, hb⟩; refine ⟨_, rfl, ?_⟩; have n0_ := Az.mk (Kd.Rb (by (with_reducible repeat first|apply Kd.Ra|apply Kd.Rn|apply Kd.Rw); exact HO_4.out) hb); have n1_ := Az.mk (Kd.Rb (by (with_reducible repeat first|apply Kd.Ra|apply Kd.Rn|apply Kd.Rw); exact HO_6.out) hb); have n2_ := Az.mk (Kd.Rb (by (with_reducible repeat first|apply Kd.Ra|apply Kd.Rn|apply Kd.Rw); exact HO589.out) hb); have n3_ := Az.mk (Kd.R_lower ho0 (bZ (by repeat first|exact HB.out|apply bA|apply bN|apply bD))); have n4_ := Az.mk (bS (by repeat first|exact HB.out|apply bA|apply bN|apply bD) hb); clear HO_4; clear HO_6; clear HO589; clear HB; have HO_4 := n0_; have HO_6 := n1_; have HO589 := n2_; have HO592 := n3_; have HB := n4_; clear n0_ n1_ n2_ n3_ n4_; (try clear hb); (try clear hb2); (try clear hk); (try clear hi); (try clear ho0); obtain ⟨Ao61, co61, eo61⟩ := Kd.R_slice HO_4.out; subst eo61))
     go_loopg [105] kj6 (fun kq v105 w' => ∃ (x105_2 : Int), v105 = .int .i64 x105_2 ∧ Az (laws_FnReuses.l0 kq a0 t572 t580 t586 t590 t572 (t572.length : Int) x105_2 = some r) ∧ Az (kq ≤ kj6) ∧ Az (Kd.R (Kd.int .i64) 3 w' w.heap.size (fun _ => True) (.slice Ao61 t572.length co61) t572) ∧ Az (Kd.R k31 31 w' w.heap.size (fun _ => True) v588 t586) ∧ Az (Kd.R Kd.string 9 w' w.heap.size (fun _ => True) v591 t590) ∧ Az (Kd.R (Kd.int .i64) 3 w' w.heap.size (fun _ => True) (.slice Ao61 t572.length co61) t572) ∧ Az (Below w.heap.size w w'))
     case atStart => exact ⟨(0), (by first | rfl | (simp; done) | (simp [*]; done)), H', ⟨Nat.le_refl _⟩, ⟨by (with_reducible repeat first|apply Kd.Ra|apply Kd.Rn|apply Kd.Rw); exact Kd.R_mono HO_4.out (fun _ hk => trivial)⟩, ⟨by (with_reducible repeat first|apply Kd.Ra|apply Kd.Rn|apply Kd.Rw); exact HO589.out⟩, ⟨by (with_reducible repeat first|apply Kd.Ra|apply Kd.Rn|apply Kd.Rw); exact HO592.out⟩, ⟨by (with_reducible repeat first|apply Kd.Ra|apply Kd.Rn|apply Kd.Rw); exact Kd.R_mono HO_4.out (fun _ hk => trivial)⟩, ⟨by repeat (first | (with_reducible first|exact HB.out|apply bA|apply bN|apply bD) | exact HB.out)⟩⟩
     case round =>
      clear H'
      try clear c1
      try clear c2
      try clear c2b0
      try clear c2b1
      try clear p2
      try clear c3
      try clear c4
      try clear c5
      try clear c13
      try clear c14
      try clear c14b0
      try clear c14b1
      try clear c14b2
      try clear c18
      try clear c18b0
      try clear c18b1
      try clear c19
      try clear c19b0
      try clear c19b1
      try clear c19b2
      try clear c23
      try clear c23b0
      try clear c23b1
      try clear c23b2
      try clear c29
      try clear c30
      try clear c31
      try clear c32
      try clear c33
      try clear c36
      try clear c38
      try clear c39
      try clear c39b0
      try clear c39b1
      try clear c39b2
      try clear c40
      try clear c40b0
      try clear c40b1
      try clear c41
      try clear c41b0
      try clear c41b1
      try clear c41b2
      try clear p2
      obtain ⟨x105_2, rfl, HA, HK2, HO_4, HO_12, HO_14, HO_103, HB⟩ := hrel
      cases gk with
      | zero => exact absurd HA.out (by simp [laws_FnReuses.l0])
      | succ k2 =>
       have H := HA.out
       clear HA
       simp only [laws_FnReuses.l0] at H
       by_cases c62 : x105_2 < (t572.length : Int)
       ·rw [if_pos c62] at H
        have c62b0 : decide (x105_2 < (t572.length : Int)) = true := decide_eq_true c62
        clear c62
        by_cases c63 : 0 ≤ x105_2
        ·rw [if_pos c63] at H
         have c63b0 : decide (0 ≤ x105_2) = true := decide_eq_true c63
         clear c63
         by_cases c64 : x105_2 < (t572.length : Int)
         ·rw [if_pos c64] at H
          have c64b0 : decide (x105_2 < (t572.length : Int)) = true := decide_eq_true c64
          clear c64
          obtain ⟨ji65, hji65⟩ : ∃ j_ : Int, (wrap64 ((rd t572 x105_2) - 1)) = j_ := ⟨_, rfl⟩
          replace H : (if 0 ≤ (ji65) then (if (ji65) < (t586.length : Int) then (if ((rd_T31 t586 (ji65)).f0) < 1 then (some false) else (if 0 ≤ (wrap64 (((rd_T31 t586 (ji65)).f0) - 1)) then (if (wrap64 (((rd_T31 t586 (ji65)).f0) - 1)) < (t590.length : Int) then (if 0 ≤ 1 then (if 1 ≤ ((rdOf ByteArray.empty t590 (wrap64 (((rd_T31 t586 (ji65)).f0) - 1))).size : Int) then (if ((rdOf ByteArray.empty t590 (wrap64 (((rd_T31 t586 (ji65)).f0) - 1))).extract 0 1).toList = ([45] : List UInt8) then (if x105_2 > 0 then (if 0 ≤ (wrap64 (x105_2 - 1)) then (if (wrap64 (x105_2 - 1)) < (t572.length : Int) then (if (rd t572 (wrap64 (x105_2 - 1))) ≥ (rd t572 x105_2) then (some false) else (laws_FnReuses.l0 k2 a0 t572 t580 t586 t590 t572 (t572.length : Int) (wrap64 (x105_2 + 1)))) else (none)) else (none)) else (laws_FnReuses.l0 k2 a0 t572 t580 t586 t590 t572 (t572.length : Int) (wrap64 (x105_2 + 1)))) else (some false)) else (none)) else (none)) else (none)) else (none))) else (none)) else (none)) = some r := by first | (rw [hji65] at H; exact H) | (simp only [hji65] at H ⊢; exact H)
          have hji65w : (IntKind.i64.wrap ((rd t572 x105_2) - 1)) = ji65 := (i64_w _).trans hji65
          by_cases c66 : 0 ≤ (ji65)
          ·rw [if_pos c66] at H
           have c66b0 : decide (0 ≤ (ji65)) = true := decide_eq_true c66
           clear c66
           by_cases c67 : (ji65) < (t586.length : Int)
           ·rw [if_pos c67] at H
            have c67b0 : decide ((ji65) < (t586.length : Int)) = true := decide_eq_true c67
            clear c67
            by_cases c68 : ((rd_T31 t586 (ji65)).f0) < 1
            ·rw [if_pos c68] at H
             have c68b0 : decide (((rd_T31 t586 (ji65)).f0) < 1) = true := decide_eq_true c68
             clear c68
             obtain rfl := Option.some.inj H
             have p593 : 0 ≤ (x105_2 : Int) := of_decide_eq_true (by first|(with_reducible assumption)|assumption)
             have q593 : x105_2 < (t572.length : Int) := of_decide_eq_true (by first|(with_reducible assumption)|assumption)
             obtain ⟨ad593, e593, hx593_0⟩ := Kd.at_int (Kd.R_reads' HO_103.out).2.2 x105_2 p593 q593
             cases e593
             replace p593 := eq_true p593
             replace q593 := eq_true q593
             obtain ⟨Ao69, co69, eo69⟩ := Kd.R_slice HO_12.out
             subst eo69
             have p594 : 0 ≤ ((ji65) : Int) := of_decide_eq_true (by first|(with_reducible assumption)|assumption)
             have q594 : (ji65) < (t586.length : Int) := of_decide_eq_true (by first|(with_reducible assumption)|assumption)
             obtain ⟨ad594, e594, hx594_0, hx594_1, hx594_2⟩ := at_T31 (Kd.R_reads' HO_12.out).2.2 (ji65) p594 q594
             cases e594
             replace p594 := eq_true p594
             replace q594 := eq_true q594
             go_wp2
             go_ret
             exact ⟨by first | rfl | (simp [errW_none, errW_some] <;> rfl) | (simp only [← hji65]; first | rfl | (simp [errW_none, errW_some] <;> rfl)) | (simp [*, errW_none, errW_some] <;> rfl), by repeat (first | (with_reducible first|exact HB.out|apply bA|apply bN|apply bD) | exact HB.out)⟩
            ·rw [if_neg c68] at H
             have c68b0 : decide (((rd_T31 t586 (ji65)).f0) < 1) = false := decide_eq_false c68
             clear c68
             obtain ⟨ji70, hji70⟩ : ∃ j_ : Int, (wrap64 (((rd_T31 t586 (ji65)).f0) - 1)) = j_ := ⟨_, rfl⟩
             replace H : (if 0 ≤ (ji70) then (if (ji70) < (t590.length : Int) then (if 0 ≤ 1 then (if 1 ≤ ((rdOf ByteArray.empty t590 (ji70)).size : Int) then (if ((rdOf ByteArray.empty t590 (ji70)).extract 0 1).toList = ([45] : List UInt8) then (if x105_2 > 0 then (if 0 ≤ (wrap64 (x105_2 - 1)) then (if (wrap64 (x105_2 - 1)) < (t572.length : Int) then (if (rd t572 (wrap64 (x105_2 - 1))) ≥ (rd t572 x105_2) then (some false) else (laws_FnReuses.l0 k2 a0 t572 t580 t586 t590 t572 (t572.length : Int) (wrap64 (x105_2 + 1)))) else (none)) else (none)) else (laws_FnReuses.l0 k2 a0 t572 t580 t586 t590 t572 (t572.length : Int) (wrap64 (x105_2 + 1)))) else (some false)) else (none)) else (none)) else (none)) else (none)) = some r := by first | (rw [hji70] at H; exact H) | (simp only [hji70] at H ⊢; exact H)
             have hji70w : (IntKind.i64.wrap (((rd_T31 t586 (ji65)).f0) - 1)) = ji70 := (i64_w _).trans hji70
             by_cases c71 : 0 ≤ (ji70)
             ·rw [if_pos c71] at H
              have c71b0 : decide (0 ≤ (ji70)) = true := decide_eq_true c71
              clear c71
              by_cases c72 : (ji70) < (t590.length : Int)
              ·rw [if_pos c72] at H
               have c72b0 : decide ((ji70) < (t590.length : Int)) = true := decide_eq_true c72
               clear c72
               by_cases c73 : 0 ≤ 1
               ·rw [if_pos c73] at H
                have c73b0 := eq_true c73
                have c73b1 : decide (0 ≤ 1) = true := decide_eq_true c73
                clear c73
                by_cases c74 : 1 ≤ ((rdOf ByteArray.empty t590 (ji70)).size : Int)
                ·rw [if_pos c74] at H
                 have c74b0 := eq_true c74
                 have c74b1 : decide (1 ≤ ((rdOf ByteArray.empty t590 (ji70)).size : Int)) = true := decide_eq_true c74
                 clear c74
                 by_cases c75 : ((rdOf ByteArray.empty t590 (ji70)).extract 0 1).toList = ([45] : List UInt8)
                 ·rw [if_pos c75] at H
                  have c75b0 : (((rdOf ByteArray.empty t590 (ji70)).extract 0 1).toList == ([45] : List UInt8)) = true := beq_iff_eq.mpr c75
                  have c75b1 : (((rdOf ByteArray.empty t590 (ji70)).extract 0 1).toList != ([45] : List UInt8)) = false := bne_eq_false_iff_eq.mpr c75
                  clear c75
                  by_cases c76 : x105_2 > 0
                  ·rw [if_pos c76] at H
                   have c76b0 : decide (0 < x105_2) = true := decide_eq_true c76
                   clear c76
                   obtain ⟨ji77, hji77⟩ : ∃ j_ : Int, (wrap64 (x105_2 - 1)) = j_ := ⟨_, rfl⟩
                   replace H : (if 0 ≤ (ji77) then (if (ji77) < (t572.length : Int) then (if (rd t572 (ji77)) ≥ (rd t572 x105_2) then (some false) else (laws_FnReuses.l0 k2 a0 t572 t580 t586 t590 t572 (t572.length : Int) (wrap64 (x105_2 + 1)))) else (none)) else (none)) = some r := by first | (rw [hji77] at H; exact H) | (simp only [hji77] at H ⊢; exact H)
                   have hji77w : (IntKind.i64.wrap (x105_2 - 1)) = ji77 := (i64_w _).trans hji77
                   by_cases c78 : 0 ≤ (ji77)
                   ·rw [if_pos c78] at H
                    have c78b0 : decide (0 ≤ (ji77)) = true := decide_eq_true c78
                    clear c78
                    by_cases c79 : (ji77) < (t572.length : Int)
                    ·rw [if_pos c79] at H
                     have c79b0 : decide ((ji77) < (t572.length : Int)) = true := decide_eq_true c79
                     clear c79
                     by_cases c80 : (rd t572 (ji77)) ≥ (rd t572 x105_2)
                     ·rw [if_pos c80] at H
                      have c80b0 : decide ((rd t572 x105_2) ≤ (rd t572 (ji77))) = true := decide_eq_true c80
                      clear c80
                      obtain rfl := Option.some.inj H
                      have p593 : 0 ≤ (x105_2 : Int) := of_decide_eq_true (by first|(with_reducible assumption)|assumption)
                      have q593 : x105_2 < (t572.length : Int) := of_decide_eq_true (by first|(with_reducible assumption)|assumption)
                      obtain ⟨ad593, e593, hx593_0⟩ := Kd.at_int (Kd.R_reads' HO_103.out).2.2 x105_2 p593 q593
                      cases e593
                      replace p593 := eq_true p593
                      replace q593 := eq_true q593
                      obtain ⟨Ao81, co81, eo81⟩ := Kd.R_slice HO_12.out
                      subst eo81
                      have p594 : 0 ≤ ((ji65) : Int) := of_decide_eq_true (by first|(with_reducible assumption)|assumption)
                      have q594 : (ji65) < (t586.length : Int) := of_decide_eq_true (by first|(with_reducible assumption)|assumption)
                      obtain ⟨ad594, e594, hx594_0, hx594_1, hx594_2⟩ := at_T31 (Kd.R_reads' HO_12.out).2.2 (ji65) p594 q594
                      cases e594
                      replace p594 := eq_true p594
                      replace q594 := eq_true q594
                      obtain ⟨Ao82, co82, eo82⟩ := Kd.R_slice HO_14.out
                      subst eo82
                      have p595 : 0 ≤ ((ji70) : Int) := of_decide_eq_true (by first|(with_reducible assumption)|assumption)
                      have q595 : (ji70) < (t590.length : Int) := of_decide_eq_true (by first|(with_reducible assumption)|assumption)
                      obtain ⟨ad595, e595, hx595_0⟩ := Kd.at_string (Kd.R_reads' HO_14.out).2.2 (ji70) p595 q595
                      cases e595
                      replace p595 := eq_true p595
                      replace q595 := eq_true q595
                      have p596 : 0 ≤ ((ji77) : Int) := of_decide_eq_true (by first|(with_reducible assumption)|assumption)
                      have q596 : (ji77) < (t572.length : Int) := of_decide_eq_true (by first|(with_reducible assumption)|assumption)
                      obtain ⟨ad596, e596, hx596_0⟩ := Kd.at_int (Kd.R_reads' HO_4.out).2.2 (ji77) p596 q596
                      obtain rfl : ad593 = ad596 := (by injection e596)
                      replace p596 := eq_true p596
                      replace q596 := eq_true q596
                      go_wp2
                      go_ret
                      exact ⟨by first | rfl | (simp [errW_none, errW_some] <;> rfl) | (simp only [← hji65, ← hji70, ← hji77]; first | rfl | (simp [errW_none, errW_some] <;> rfl)) | (simp [*, errW_none, errW_some] <;> rfl), by repeat (first | (with_reducible first|exact HB.out|apply bA|apply bN|apply bD) | exact HB.out)⟩
                     ·rw [if_neg c80] at H
                      have c80b0 : decide ((rd t572 x105_2) ≤ (rd t572 (ji77))) = false := decide_eq_false c80
                      clear c80
                      have H' := Az.mk H
                      clear H
                      have p593 : 0 ≤ (x105_2 : Int) := of_decide_eq_true (by first|(with_reducible assumption)|assumption)
                      have q593 : x105_2 < (t572.length : Int) := of_decide_eq_true (by first|(with_reducible assumption)|assumption)
                      obtain ⟨ad593, e593, hx593_0⟩ := Kd.at_int (Kd.R_reads' HO_103.out).2.2 x105_2 p593 q593
                      cases e593
                      replace p593 := eq_true p593
                      replace q593 := eq_true q593
                      obtain ⟨Ao83, co83, eo83⟩ := Kd.R_slice HO_12.out
                      subst eo83
                      have p594 : 0 ≤ ((ji65) : Int) := of_decide_eq_true (by first|(with_reducible assumption)|assumption)
                      have q594 : (ji65) < (t586.length : Int) := of_decide_eq_true (by first|(with_reducible assumption)|assumption)
                      obtain ⟨ad594, e594, hx594_0, hx594_1, hx594_2⟩ := at_T31 (Kd.R_reads' HO_12.out).2.2 (ji65) p594 q594
                      cases e594
                      replace p594 := eq_true p594
                      replace q594 := eq_true q594
                      obtain ⟨Ao84, co84, eo84⟩ := Kd.R_slice HO_14.out
                      subst eo84
                      have p595 : 0 ≤ ((ji70) : Int) := of_decide_eq_true (by first|(with_reducible assumption)|assumption)
                      have q595 : (ji70) < (t590.length : Int) := of_decide_eq_true (by first|(with_reducible assumption)|assumption)
                      obtain ⟨ad595, e595, hx595_0⟩ := Kd.at_string (Kd.R_reads' HO_14.out).2.2 (ji70) p595 q595
                      cases e595
                      replace p595 := eq_true p595
                      replace q595 := eq_true q595
                      have p596 : 0 ≤ ((ji77) : Int) := of_decide_eq_true (by first|(with_reducible assumption)|assumption)
                      have q596 : (ji77) < (t572.length : Int) := of_decide_eq_true (by first|(with_reducible assumption)|assumption)
                      obtain ⟨ad596, e596, hx596_0⟩ := Kd.at_int (Kd.R_reads' HO_4.out).2.2 (ji77) p596 q596
                      obtain rfl : ad593 = ad596 := (by injection e596)
                      replace p596 := eq_true p596
                      replace q596 := eq_true q596
                      go_wp2
                      go_roundg k2
                      case measure => have := HJ6.out; have := HK2.out; omega
                      case rel => exact ⟨(wrap64 (x105_2 + 1)), (by first | rfl | (simp; done) | (simp [*]; done)), H', ⟨by have := HJ6.out; have := HK2.out; omega⟩, ⟨by (with_reducible repeat first|apply Kd.Ra|apply Kd.Rn|apply Kd.Rw); exact HO_4.out⟩, ⟨by (with_reducible repeat first|apply Kd.Ra|apply Kd.Rn|apply Kd.Rw); exact HO_12.out⟩, ⟨by (with_reducible repeat first|apply Kd.Ra|apply Kd.Rn|apply Kd.Rw); exact HO_14.out⟩, ⟨by (with_reducible repeat first|apply Kd.Ra|apply Kd.Rn|apply Kd.Rw); exact HO_103.out⟩, ⟨by repeat (first | (with_reducible first|exact HB.out|apply bA|apply bN|apply bD) | exact HB.out)⟩⟩
                    ·rw [if_neg c79] at H
                     exact absurd H (by simp)
                   ·rw [if_neg c78] at H
                    exact absurd H (by simp)
                  ·rw [if_neg c76] at H
                   have c76b0 : decide (0 < x105_2) = false := decide_eq_false c76
                   clear c76
                   have H' := Az.mk H
                   clear H
                   have p593 : 0 ≤ (x105_2 : Int) := of_decide_eq_true (by first|(with_reducible assumption)|assumption)
                   have q593 : x105_2 < (t572.length : Int) := of_decide_eq_true (by first|(with_reducible assumption)|assumption)
                   obtain ⟨ad593, e593, hx593_0⟩ := Kd.at_int (Kd.R_reads' HO_103.out).2.2 x105_2 p593 q593
                   cases e593
                   replace p593 := eq_true p593
                   replace q593 := eq_true q593
                   obtain ⟨Ao85, co85, eo85⟩ := Kd.R_slice HO_12.out
                   subst eo85
                   have p594 : 0 ≤ ((ji65) : Int) := of_decide_eq_true (by first|(with_reducible assumption)|assumption)
                   have q594 : (ji65) < (t586.length : Int) := of_decide_eq_true (by first|(with_reducible assumption)|assumption)
                   obtain ⟨ad594, e594, hx594_0, hx594_1, hx594_2⟩ := at_T31 (Kd.R_reads' HO_12.out).2.2 (ji65) p594 q594
                   cases e594
                   replace p594 := eq_true p594
                   replace q594 := eq_true q594
                   obtain ⟨Ao86, co86, eo86⟩ := Kd.R_slice HO_14.out
                   subst eo86
                   have p595 : 0 ≤ ((ji70) : Int) := of_decide_eq_true (by first|(with_reducible assumption)|assumption)
                   have q595 : (ji70) < (t590.length : Int) := of_decide_eq_true (by first|(with_reducible assumption)|assumption)
                   obtain ⟨ad595, e595, hx595_0⟩ := Kd.at_string (Kd.R_reads' HO_14.out).2.2 (ji70) p595 q595
                   cases e595
                   replace p595 := eq_true p595
                   replace q595 := eq_true q595
                   go_wp2
                   go_roundg k2
                   case measure => have := HJ6.out; have := HK2.out; omega
                   case rel => exact ⟨(wrap64 (x105_2 + 1)), (by first | rfl | (simp; done) | (simp [*]; done)), H', ⟨by have := HJ6.out; have := HK2.out; omega⟩, ⟨by (with_reducible repeat first|apply Kd.Ra|apply Kd.Rn|apply Kd.Rw); exact HO_4.out⟩, ⟨by (with_reducible repeat first|apply Kd.Ra|apply Kd.Rn|apply Kd.Rw); exact HO_12.out⟩, ⟨by (with_reducible repeat first|apply Kd.Ra|apply Kd.Rn|apply Kd.Rw); exact HO_14.out⟩, ⟨by (with_reducible repeat first|apply Kd.Ra|apply Kd.Rn|apply Kd.Rw); exact HO_103.out⟩, ⟨by repeat (first | (with_reducible first|exact HB.out|apply bA|apply bN|apply bD) | exact HB.out)⟩⟩
                 ·rw [if_neg c75] at H
                  have c75b0 : (((rdOf ByteArray.empty t590 (ji70)).extract 0 1).toList == ([45] : List UInt8)) = false := beq_eq_false_iff_ne.mpr c75
                  have c75b1 : (((rdOf ByteArray.empty t590 (ji70)).extract 0 1).toList != ([45] : List UInt8)) = true := bne_iff_ne.mpr c75
                  obtain rfl := Option.some.inj H
                  have p593 : 0 ≤ (x105_2 : Int) := of_decide_eq_true (by first|(with_reducible assumption)|assumption)
                  have q593 : x105_2 < (t572.length : Int) := of_decide_eq_true (by first|(with_reducible assumption)|assumption)
                  obtain ⟨ad593, e593, hx593_0⟩ := Kd.at_int (Kd.R_reads' HO_103.out).2.2 x105_2 p593 q593
                  cases e593
                  replace p593 := eq_true p593
                  replace q593 := eq_true q593
                  obtain ⟨Ao87, co87, eo87⟩ := Kd.R_slice HO_12.out
                  subst eo87
                  have p594 : 0 ≤ ((ji65) : Int) := of_decide_eq_true (by first|(with_reducible assumption)|assumption)
                  have q594 : (ji65) < (t586.length : Int) := of_decide_eq_true (by first|(with_reducible assumption)|assumption)
                  obtain ⟨ad594, e594, hx594_0, hx594_1, hx594_2⟩ := at_T31 (Kd.R_reads' HO_12.out).2.2 (ji65) p594 q594
                  cases e594
                  replace p594 := eq_true p594
                  replace q594 := eq_true q594
                  obtain ⟨Ao88, co88, eo88⟩ := Kd.R_slice HO_14.out
                  subst eo88
                  have p595 : 0 ≤ ((ji70) : Int) := of_decide_eq_true (by first|(with_reducible assumption)|assumption)
                  have q595 : (ji70) < (t590.length : Int) := of_decide_eq_true (by first|(with_reducible assumption)|assumption)
                  obtain ⟨ad595, e595, hx595_0⟩ := Kd.at_string (Kd.R_reads' HO_14.out).2.2 (ji70) p595 q595
                  cases e595
                  replace p595 := eq_true p595
                  replace q595 := eq_true q595
                  go_wp2
                  go_ret
                  exact ⟨by first | rfl | (simp [errW_none, errW_some] <;> rfl) | (simp only [← hji65, ← hji70]; first | rfl | (simp [errW_none, errW_some] <;> rfl)) | (simp [*, errW_none, errW_some] <;> rfl), by repeat (first | (with_reducible first|exact HB.out|apply bA|apply bN|apply bD) | exact HB.out)⟩
                ·rw [if_neg c74] at H
                 exact absurd H (by simp)
               ·rw [if_neg c73] at H
                exact absurd H (by simp)
              ·rw [if_neg c72] at H
               exact absurd H (by simp)
             ·rw [if_neg c71] at H
              exact absurd H (by simp)
           ·rw [if_neg c67] at H
            exact absurd H (by simp)
          ·rw [if_neg c66] at H
           exact absurd H (by simp)
         ·rw [if_neg c64] at H
          exact absurd H (by simp)
        ·rw [if_neg c63] at H
         exact absurd H (by simp)
       ·rw [if_neg c62] at H
        have c62b0 : decide (x105_2 < (t572.length : Int)) = false := decide_eq_false c62
        clear c62
        have H' := Az.mk H
        clear H
        go_wp2
        go_loopg [18, 143] k2 (fun kq v18 v143 w' => ∃ (x18_3 : Int) (x143_3 : Int), v18 = .int .i64 x18_3 ∧ v143 = .int .i64 x143_3 ∧ Az (laws_FnReuses.l1 kq a0 t580 t590 x18_3 (t580.size : Int) x143_3 = some r) ∧ Az (kq ≤ k2) ∧ Az (Kd.R Kd.string 9 w' w.heap.size (fun _ => True) v591 t590) ∧ Az (Below w.heap.size w w'))
        case atStart => exact ⟨(1), (0), (by first | rfl | (simp; done) | (simp [*]; done)), (by first | rfl | (simp; done) | (simp [*]; done)), H', ⟨Nat.le_refl _⟩, ⟨by (with_reducible repeat first|apply Kd.Ra|apply Kd.Rn|apply Kd.Rw); exact HO_14.out⟩, ⟨by repeat (first | (with_reducible first|exact HB.out|apply bA|apply bN|apply bD) | exact HB.out)⟩⟩
        case round =>
         clear H'
         try clear c1
         try clear c2
         try clear c2b0
         try clear c2b1
         try clear p2
         try clear c3
         try clear c4
         try clear c5
         try clear p5
         try clear q5
         try clear hx5
         try clear c6
         try clear p6
         try clear c7
         try clear c8
         try clear c13
         try clear c14
         try clear c14b0
         try clear c14b1
         try clear c14b2
         try clear c18
         try clear c18b0
         try clear c18b1
         try clear c19
         try clear c19b0
         try clear c19b1
         try clear c19b2
         try clear c23
         try clear c23b0
         try clear c23b1
         try clear c23b2
         try clear c29
         try clear c30
         try clear c31
         try clear c32
         try clear c33
         try clear c36
         try clear c38
         try clear c39
         try clear c39b0
         try clear c39b1
         try clear c39b2
         try clear c40
         try clear c40b0
         try clear c40b1
         try clear c41
         try clear c41b0
         try clear c41b1
         try clear c41b2
         try clear p59
         try clear q59
         try clear hx59
         try clear c62
         try clear c62b0
         try clear c63
         try clear c63b0
         try clear c64
         try clear c64b0
         try clear p64
         try clear c66
         try clear c66b0
         try clear c67
         try clear c67b0
         try clear c68
         try clear c68b0
         try clear c71
         try clear c71b0
         try clear c72
         try clear c72b0
         try clear c73
         try clear c73b0
         try clear c73b1
         try clear c74
         try clear c74b0
         try clear c74b1
         try clear c75
         try clear c75b0
         try clear c75b1
         try clear c76
         try clear c76b0
         try clear c78
         try clear c78b0
         try clear c79
         try clear c79b0
         try clear c80
         try clear c80b0
         try clear hx593_0
         try clear hx594_0
         try clear hx594_1
         try clear hx594_2
         try clear hx595_0
         try clear hx596_0
         try clear p2
         try clear p593
         try clear p594
         try clear p595
         try clear p596
         try clear q593
         try clear q594
         try clear q595
         try clear q596
         obtain ⟨x18_3, x143_3, rfl, rfl, HA, HK3, HO_14, HB⟩ := hrel
         cases gk with
         | zero => exact absurd HA.out (by simp [laws_FnReuses.l1])
         | succ k3 =>
          have H := HA.out
          clear HA
          simp only [laws_FnReuses.l1] at H
          by_cases c89 : x143_3 < (t580.size : Int)
          ·rw [if_pos c89] at H
           have c89b0 : decide (x143_3 < (t580.size : Int)) = true := decide_eq_true c89
           clear c89
           by_cases c90 : 0 ≤ x143_3
           ·rw [if_pos c90] at H
            have c90b0 : decide (0 ≤ x143_3) = true := decide_eq_true c90
            clear c90
            by_cases c91 : x143_3 < (t580.size : Int)
            ·rw [if_pos c91] at H
             have c91b0 : decide (x143_3 < (t580.size : Int)) = true := decide_eq_true c91
             clear c91
             by_cases c93 : (bt t580 x143_3) = 59
             ·rw [if_pos c93] at H
              have c93b0 : ((bt t580 x143_3) == 59) = true := beq_iff_eq.mpr c93
              have c93b1 : ((bt t580 x143_3) != 59) = false := bne_eq_false_iff_eq.mpr c93
              clear c93
              have H' := Az.mk H
              clear H
              have p92 : 0 ≤ (x143_3 : Int) := of_decide_eq_true (by first|(with_reducible assumption)|assumption)
              have q92 : x143_3 < (t580.size : Int) := of_decide_eq_true (by first|(with_reducible assumption)|assumption)
              have hx92 := Go.Proofs.YtndjbnkmhpbnpaaGreatDoorW.PrintWords.bt_at t580 x143_3
              replace p92 := eq_true p92
              replace q92 := eq_true q92
              go_wp2
              go_roundg k3
              case measure => have := HJ6.out; have := HK2.out; have := HK3.out; omega
              case rel => exact ⟨(wrap64 (x18_3 + 1)), (wrap64 (x143_3 + 1)), (by first | rfl | (simp; done) | (simp [*]; done)), (by first | rfl | (simp; done) | (simp [*]; done)), H', ⟨by have := HJ6.out; have := HK2.out; have := HK3.out; omega⟩, ⟨by (with_reducible repeat first|apply Kd.Ra|apply Kd.Rn|apply Kd.Rw); exact HO_14.out⟩, ⟨by repeat (first | (with_reducible first|exact HB.out|apply bA|apply bN|apply bD) | exact HB.out)⟩⟩
             ·rw [if_neg c93] at H
              have c93b0 : ((bt t580 x143_3) == 59) = false := beq_eq_false_iff_ne.mpr c93
              have c93b1 : ((bt t580 x143_3) != 59) = true := bne_iff_ne.mpr c93
              have H' := Az.mk H
              clear H
              have p92 : 0 ≤ (x143_3 : Int) := of_decide_eq_true (by first|(with_reducible assumption)|assumption)
              have q92 : x143_3 < (t580.size : Int) := of_decide_eq_true (by first|(with_reducible assumption)|assumption)
              have hx92 := Go.Proofs.YtndjbnkmhpbnpaaGreatDoorW.PrintWords.bt_at t580 x143_3
              replace p92 := eq_true p92
              replace q92 := eq_true q92
              go_wp2
              go_roundg k3
              case measure => have := HJ6.out; have := HK2.out; have := HK3.out; omega
              case rel => exact ⟨(x18_3), (wrap64 (x143_3 + 1)), (by first | rfl | (simp; done) | (simp [*]; done)), (by first | rfl | (simp; done) | (simp [*]; done)), H', ⟨by have := HJ6.out; have := HK2.out; have := HK3.out; omega⟩, ⟨by (with_reducible repeat first|apply Kd.Ra|apply Kd.Rn|apply Kd.Rw); exact HO_14.out⟩, ⟨by repeat (first | (with_reducible first|exact HB.out|apply bA|apply bN|apply bD) | exact HB.out)⟩⟩
            ·rw [if_neg c91] at H
             exact absurd H (by simp)
           ·rw [if_neg c90] at H
            exact absurd H (by simp)
          ·rw [if_neg c89] at H
           have c89b0 : decide (x143_3 < (t580.size : Int)) = false := decide_eq_false c89
           clear c89
           by_cases c94 : a0.toList = ([45] : List UInt8)
           ·rw [if_pos c94] at H
            have c94b0 : (a0.toList == ([45] : List UInt8)) = true := beq_iff_eq.mpr c94
            have c94b1 : (a0.toList != ([45] : List UInt8)) = false := bne_eq_false_iff_eq.mpr c94
            clear c94
            by_cases c95 : t580.toList = ([45] : List UInt8)
            ·rw [if_pos c95] at H
             have c95b0 : (t580.toList == ([45] : List UInt8)) = true := beq_iff_eq.mpr c95
             have c95b1 : (t580.toList != ([45] : List UInt8)) = false := bne_eq_false_iff_eq.mpr c95
             clear c95
             obtain rfl := Option.some.inj H
             go_wp2
             go_ret
             exact ⟨by first | rfl | (simp [errW_none, errW_some] <;> rfl) | (simp [*, errW_none, errW_some] <;> rfl), by repeat (first | (with_reducible first|exact HB.out|apply bA|apply bN|apply bD) | exact HB.out)⟩
            ·rw [if_neg c95] at H
             have c95b0 : (t580.toList == ([45] : List UInt8)) = false := beq_eq_false_iff_ne.mpr c95
             have c95b1 : (t580.toList != ([45] : List UInt8)) = true := bne_iff_ne.mpr c95
             obtain rfl := Option.some.inj H
             obtain ⟨Ao96, co96, eo96⟩ := Kd.R_slice HO_14.out
             subst eo96
             go_wp2
             go_ret
             exact ⟨by first | rfl | (simp [errW_none, errW_some] <;> rfl) | (simp [*, errW_none, errW_some] <;> rfl), by repeat (first | (with_reducible first|exact HB.out|apply bA|apply bN|apply bD) | exact HB.out)⟩
           ·rw [if_neg c94] at H
            have c94b0 : (a0.toList == ([45] : List UInt8)) = false := beq_eq_false_iff_ne.mpr c94
            have c94b1 : (a0.toList != ([45] : List UInt8)) = true := bne_iff_ne.mpr c94
            obtain rfl := Option.some.inj H
            obtain ⟨Ao97, co97, eo97⟩ := Kd.R_slice HO_14.out
            subst eo97
            go_wp2
            go_ret
            exact ⟨by first | rfl | (simp [errW_none, errW_some] <;> rfl) | (simp [*, errW_none, errW_some] <;> rfl), by repeat (first | (with_reducible first|exact HB.out|apply bA|apply bN|apply bD) | exact HB.out)⟩
def laws_FnReuses.Pure : Prop := ∀ (a0 : ByteArray), a0.size ≤ 900000 → ∃ k, laws_FnReuses.f k a0 = some true
end Go.Proofs.YtndjbnkmhpbnpaaGreatDoor.Pr
namespace Go.Proofs.YtndjbnkmhpbnpaaGreatDoor.Pr
open Go.RowKit Go.Proofs.YtndjbnkmhpbnpaaGreatDoorW.PrintWords Go.Proofs.YtndjbnkmhpbnpaaGreatDoorW.PrintLast Go.Proofs.YtndjbnkmhpbnpaaGreatDoorW.PrintMore
set_option linter.unusedVariables false
set_option linter.unusedSimpArgs false
theorem rows_go (a0 x8 : ByteArray) (W : List ByteArray) (hs : x8.size ≤ 8000000) : ∀ (d i a : Nat), i + d = x8.size → a ≤ i + 1 → a + (x8.data.toList.drop i).count 59 = W.length →
  Ev (fun k => laws_FnReuses.l1 k a0 x8 W (a : Int) (x8.size : Int) (i : Int)) true
 | 0, i, a, hi, ha, hc => by
  rw [List.drop_of_length_le (by simp; omega)] at hc
  have hb : ((a : Int) == (W.length : Int)) = true := by
   rw [beq_iff_eq]
   simp at hc
   omega
  refine Ev.step (fun k => laws_FnReuses.l1.eq_2 (k := k) ..) ?_
  simp only [if_neg (show ¬ ((i : Int) < (x8.size : Int)) by omega), hb]
  split
  ·split
   ·exact Ev.now _
   ·exact Ev.now _
  ·exact Ev.now _
 | d + 1, i, a, hi, ha, hc => by
  have hlt : i < x8.size := by omega
  have hil : i < x8.data.toList.length := by simpa using hlt
  rw [List.drop_eq_getElem_cons hil, List.count_cons] at hc
  refine Ev.step (fun k => laws_FnReuses.l1.eq_2 (k := k) ..) ?_
  simp only [if_pos (show ((i : Int) < (x8.size : Int)) by omega), if_pos (show (0 : Int) ≤ (i : Int) by omega), wrap_up (show i ≤ 1000000000 by omega), wrap_up (show a ≤ 1000000000 by omega)]
  by_cases h59 : x8.data.toList[i] = 59
  ·rw [if_pos (by rw [h59]; rfl)] at hc
   simp only [if_pos (show (bt x8 (i : Int)) = 59 by rw [bt_at x8 i hlt, h59]; rfl)]
   exact rows_go a0 x8 W hs d (i + 1) (a + 1) (by omega) (by omega) (by omega)
  ·rw [if_neg (by rw [beq_iff_eq]; exact h59)] at hc
   simp only [if_neg (show ¬ (bt x8 (i : Int)) = 59 by rw [bt_at x8 i hlt]; intro e; apply h59; apply UInt8.toNat_inj.1; have : (59 : UInt8).toNat = 59 := rfl; omega)]
   exact rows_go a0 x8 W hs d (i + 1) a (by omega) (by omega) (by omega)
theorem told_word_at {o : List S55} {W : List ByteArray} (hW : W.map (·.data.toList) = o.map piece) {k : Nat} {e : S55} (he : o[k]? = some e) (hs : e.f0.toList = [45]) :
  k < W.length ∧ 1 ≤ (rdOf ByteArray.empty W (k : Int)).size ∧ ((rdOf ByteArray.empty W (k : Int)).extract 0 1).toList = [45] := by
 have hk : k < o.length := (List.getElem?_eq_some_iff.1 he).1
 have hl : W.length = o.length := by
  have := congrArg List.length hW
  simpa using this
 have hkW : k < W.length := by omega
 have hd : rdOf ByteArray.empty W (k : Int) = W[k] := by
  unfold rdOf
  rw [Int.toNat_natCast, List.getD_eq_getElem?_getD, List.getElem?_eq_getElem hkW]
  rfl
 have hp : W[k].data.toList = 45 :: Lib.itoa e.f1 := by
  have h1 : (W.map (·.data.toList))[k]? = (o.map piece)[k]? := by rw [hW]
  rw [List.getElem?_map, List.getElem?_map, he, List.getElem?_eq_getElem hkW] at h1
  simp only [Option.map_some] at h1
  injection h1 with h1
  rw [h1]
  unfold piece
  rw [hs]
  rfl
 have hsz : 1 ≤ W[k].size := by
  have := congrArg List.length hp
  simp only [List.length_cons, Array.length_toList] at this
  have h2 : W[k].size = W[k].data.size := rfl
  omega
 rw [hd]
 refine ⟨hkW, hsz, ?_⟩
 have := extract_one W[k] 0 (by omega)
 rw [Lib.toList_data, this]
 simp [hp]
theorem reuses_go {a0 : ByteArray} {o : List S55} {m : Nat} {l : List Int} (g : Good o m l) (hl : o.length ≤ 600) (x8 : ByteArray) (W : List ByteArray) (hW : o ≠ [] → W.map (·.data.toList) = o.map piece)
  (h : Ev (fun k => laws_FnReuses.l1 k a0 x8 W 1 (x8.size : Int) 0) true) : ∀ (d i : Nat), i + d = (reu false o).length →
  Ev (fun k => laws_FnReuses.l0 k a0 (reu false o) x8 (lvs o) W (reu false o) ((reu false o).length : Int) (i : Int)) true
 | 0, i, hi => by
  refine Ev.step (fun k => laws_FnReuses.l0.eq_2 (k := k) ..) ?_
  simp only [if_neg (show ¬ ((i : Int) < ((reu false o).length : Int)) by omega)]
  exact h
 | d + 1, i, hi => by
  have ih := reuses_go g hl x8 W hW h d (i + 1) (by omega)
  have hlt : i < (reu false o).length := by omega
  have hlen := reu_length false o
  have hmem : (reu false o)[i] ∈ reu false o := List.getElem_mem hlt
  obtain ⟨k, e, e', h1, h2, h3, h4, h5⟩ := reu_at o o 0 rfl _ hmem
  have hne : o ≠ [] := fun hh => by rw [hh] at h1; simp at h1
  have hv := g.values e (List.mem_of_getElem? h1)
  rw [h3] at hv
  have hlv := g.lvs_length
  have hgm := g.made
  obtain ⟨j, hj, hg, S, K⟩ := g.lv_at hv.1 hv.2
  have hb := S.first (k + 1) e h1 (by rw [h3]; exact hj) h2
  obtain ⟨w1, w2, w3⟩ := told_word_at (hW hne) h4 h5
  have hk : k + 1 < o.length := (List.getElem?_eq_some_iff.1 h1).1
  refine Ev.step (fun k => laws_FnReuses.l0.eq_2 (k := k) ..) ?_
  simp only [if_pos (show ((i : Int) < ((reu false o).length : Int)) by omega), if_pos (show (0 : Int) ≤ (i : Int) by omega), rd_at hlt, wrap_small (n := (reu false o)[i] - 1) (by omega) (by omega), if_pos (show 0 ≤ (reu false o)[i] - 1 by omega), if_pos (show (reu false o)[i] - 1 < ((lvs o).length : Int) by omega), hb, if_neg (show ¬ (((k + 1 : Nat) : Int) < 1) by omega)]
  rw [show wrap64 (((k + 1 : Nat) : Int) - 1) = (k : Int) by rw [wrap_small (by omega) (by omega)]; omega]
  simp only [if_pos (show (0 : Int) ≤ (k : Int) by omega), if_pos (show (k : Int) < (W.length : Int) by omega), if_pos (show (0 : Int) ≤ 1 by decide), if_pos (show (1 : Int) ≤ ((rdOf ByteArray.empty W (k : Int)).size : Int) by omega), if_pos w3, wrap_up (show i ≤ 1000000000 by omega)]
  by_cases h0 : (i : Int) > 0
  ·obtain ⟨p, rfl⟩ : ∃ p, i = p + 1 := ⟨i - 1, by omega⟩
   have hw : wrap64 (((p + 1 : Nat) : Int) - 1) = (p : Int) := by rw [wrap_small (by omega) (by omega)]; omega
   have hpw : (reu false o).Pairwise (· < ·) := g.begun.1.sublist (reu_sub false o)
   have hlt2 := List.pairwise_iff_getElem.1 hpw p (p + 1) (by omega) hlt (by omega)
   simp only [if_pos h0, hw, if_pos (show (0 : Int) ≤ (p : Int) by omega), if_pos (show (p : Int) < ((reu false o).length : Int) by omega), rd_at (show p < (reu false o).length by omega), if_neg (show ¬ ((reu false o)[p] ≥ (reu false o)[p + 1]) by omega)]
   exact ih
  ·simp only [if_neg h0]
   exact ih
theorem fnReuses_plain : laws_FnReuses.Pure := by
 intro a0 ha
 have hs : a0.size ≤ 1048576 := by omega
 have E1 := elSame_ev (reusedOf a0).1 (by have := reusedOf_len a0; omega)
 refine Ev.rounds ?_
 unfold laws_FnReuses.f
 simp only [if_neg (show ¬ ((a0.size : Int) > 1048576) by omega)]
 refine Ev.bind (reuI_ev a0 hs) (Ev.bind (reuS_ev a0 hs) (Ev.bind (ctI_ev a0 hs) (Ev.bind (ctS_ev a0 hs) (Ev.bind E1 ?_))))
 have hsame : (cellsTextOf a0).2 = (reusedOf a0).2 := by
  unfold cellsTextOf reusedOf
  cases (toldOf a0).2.2 <;> rfl
 simp only [if_true, bne_self_eq_false, Bool.false_eq_true, if_false, hsame]
 cases hok : (toldOf a0).2.2
 ·have h2 : (reusedOf a0).2 = false := hok
  refine Ev.step (fun k => laws_FnReuses.j0.eq_2 (k := k) ..) ?_
  simp only [h2, Bool.not_false, if_true, beq_self_eq_true]
  refine Ev.bind E1 ?_
  simp only [if_true]
  exact Ev.now _
 ·have h2 : (reusedOf a0).2 = true := hok
  obtain ⟨m, l, g, hm, hl⟩ := told_good a0
  obtain ⟨f1, f2, f3, f4, f5, f6⟩ := ct_facts g hl
  obtain ⟨W, hW1, hW2⟩ := elWords_ev a0 hs
  rw [told_words hok g] at hW2
  have hct : (cellsTextOf a0).1 = cellsTxt (lvs (toldOf a0).1) (cst Gf (toldOf a0).1).1 (cntOf (cst Gf (toldOf a0).1).1).toNat (toldOf a0).1.length := by
   unfold cellsTextOf
   rw [if_pos hok]
  have hcnt := cellsTxt_count f1 (cst Gf (toldOf a0).1).1 (cntOf (cst Gf (toldOf a0).1).1).toNat (toldOf a0).1.length
  have hsz := cellsTxt_size f1 (cst Gf (toldOf a0).1).1 f4 hl
  rw [← hct] at hcnt hsz
  have hWl : W.length = if (toldOf a0).1.length = 0 then 1 else (toldOf a0).1.length := by
   have := congrArg List.length hW2
   rw [List.length_map] at this
   rw [this]
   by_cases ho : (toldOf a0).1 = []
   ·rw [if_pos ho, if_pos (by rw [ho]; rfl)]
    rfl
   ·rw [if_neg ho, if_neg (fun h => ho (List.length_eq_zero_iff.1 h)), List.length_map]
  refine Ev.step (fun k => laws_FnReuses.j0.eq_2 (k := k) ..) ?_
  simp only [h2, Bool.not_true, Bool.false_eq_true, if_false, ofLives_told a0 hs, hok, if_true, Option.bind_some]
  refine Ev.bind hW1 ?_
  have hrows := rows_go a0 (cellsTextOf a0).1 W hsz (cellsTextOf a0).1.size 0 1 (Nat.zero_add _) (by omega) (by rw [List.drop_zero]; omega)
  exact reuses_go g hl (cellsTextOf a0).1 W (fun hne => by rw [hW2, if_neg hne]) hrows (reu false (toldOf a0).1).length 0 (Nat.zero_add _)
end Go.Proofs.YtndjbnkmhpbnpaaGreatDoor.Pr
namespace Go.Proofs.YtndjbnkmhpbnpaaGreatDoor.Pure
open Go.Proofs.YtndjbnkmhpbnpaaGreatDoor.Pr
theorem FnReuses : laws_FnReuses.Pure := Pr.fnReuses_plain
end Go.Proofs.YtndjbnkmhpbnpaaGreatDoor.Pure
