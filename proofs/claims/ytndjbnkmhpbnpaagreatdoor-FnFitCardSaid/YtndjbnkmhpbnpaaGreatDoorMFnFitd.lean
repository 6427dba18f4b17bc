/- MFnFitd: texts of this proof, joined. -/
import Derived.Test.YtndjbnkmhpbnpaaGreatDoorCa
import Derived.Test.YtndjbnkmhpbnpaaGreatDoorCb
import Derived.Test.YtndjbnkmhpbnpaaGreatDoorCc
import Derived.Test.YtndjbnkmhpbnpaaGreatDoorCd
import Derived.Test.YtndjbnkmhpbnpaaGreatDoorCe
import Derived.Test.YtndjbnkmhpbnpaaGreatDoorCf
import Derived.Test.YtndjbnkmhpbnpaaGreatDoorCg
import Derived.Test.YtndjbnkmhpbnpaaGreatDoorCh
import Derived.Test.YtndjbnkmhpbnpaaGreatDoorCi
import Derived.Test.YtndjbnkmhpbnpaaGreatDoorCj
import Derived.Test.YtndjbnkmhpbnpaaGreatDoorCk
import Derived.Test.YtndjbnkmhpbnpaaGreatDoorCl
import Derived.Test.YtndjbnkmhpbnpaaGreatDoorMFnFita
import Derived.Test.YtndjbnkmhpbnpaaGreatDoorMFnFitb
import Derived.Test.YtndjbnkmhpbnpaaGreatDoorMFnFitc
namespace Go.Proofs.YtndjbnkmhpbnpaaGreatDoor.Pr
open Go.RowKit Go.Proofs.YtndjbnkmhpbnpaaGreatDoorW.PrintWords Go.Proofs.YtndjbnkmhpbnpaaGreatDoorW.PrintLast Go.Proofs.YtndjbnkmhpbnpaaGreatDoorW.PrintMore
attribute [local go_sem] max2_int min2_int max_two min_two max_three min_three max_four min_four   -- for this text's walks alone
set_option linter.unusedVariables false
set_option linter.unusedSimpArgs false
mutual
def laws_FnFit.j0 : Nat → ByteArray → List Int → Bool → Bool → Option (Bool)
 | 0, _, _, _, _ => none
 | k + 1, x3, x4, x5, x47 => if x47 = true then (some (!x5)) else (if x5 = true then (laws_FnFit.l0 k x3 0 x4 (x4.length : Int) 0) else ((laws_elWords.f k x3).bind fun t773 => (laws_FnFit.l1 k x3 x4 (t773.length : Int) 0)))
def laws_FnFit.l0 : Nat → ByteArray → Int → List Int → Int → Int → Option (Bool)
 | 0, _, _, _, _, _ => none
 | k + 1, x3, x8, x51, x52, x53 => if x53 < x52 then (if 0 ≤ x53 then (if x53 < (x51.length : Int) then (laws_FnFit.l0 k x3 (mx x8 (wrap64 ((rd x51 x53) + 1))) x51 x52 (wrap64 (x53 + 1))) else (none)) else (none)) else ((impl_MostAlive.f k x3).bind fun t772 => (some (decide (x8 ≥ t772))))
def laws_FnFit.l1 : Nat → ByteArray → List Int → Int → Int → Option (Bool)
 | 0, _, _, _, _ => none
 | k + 1, x3, x4, x68, x69 => if x69 < x68 then ((impl_AliveAt.f k x3 x69).bind fun bt776 => (laws_FnFit.l2 k x3 x4 bt776.1 x68 x69 bt776.1 (bt776.1.length : Int) 0)) else (some false)
def laws_FnFit.l2 : Nat → ByteArray → List Int → List Int → Int → Int → List Int → Int → Int → Option (Bool)
 | 0, _, _, _, _, _, _, _, _ => none
 | k + 1, x3, x4, x12, x68, x69, x78, x79, x80 => if x80 < x79 then (if 0 ≤ x80 then (if x80 < (x78.length : Int) then (if 0 ≤ (wrap64 ((rd x78 x80) - 1)) then (if (wrap64 ((rd x78 x80) - 1)) < (x4.length : Int) then (if (rd x4 (wrap64 ((rd x78 x80) - 1))) < 0 then (some true) else (if x80 ≤ (x12.length : Int) then ((some (x12.take (x80 : Int).toNat : List Int)).bind fun y782 => (laws_FnFit.l3 k x3 x4 x12 (rd x78 x80) x68 x69 x78 x79 x80 y782 (y782.length : Int) 0)) else (none))) else (none)) else (none)) else (none)) else (none)) else (laws_FnFit.l1 k x3 x4 x68 (wrap64 (x69 + 1)))
def laws_FnFit.l3 : Nat → ByteArray → List Int → List Int → Int → Int → Int → List Int → Int → Int → List Int → Int → Int → Option (Bool)
 | 0, _, _, _, _, _, _, _, _, _, _, _, _ => none
 | k + 1, x3, x4, x12, x15, x68, x69, x78, x79, x80, x93, x94, x95 => if x95 < x94 then (if 0 ≤ x95 then (if x95 < (x93.length : Int) then (if 0 ≤ (wrap64 (x15 - 1)) then (if (wrap64 (x15 - 1)) < (x4.length : Int) then (if 0 ≤ (wrap64 ((rd x93 x95) - 1)) then (if (wrap64 ((rd x93 x95) - 1)) < (x4.length : Int) then (if (rd x4 (wrap64 (x15 - 1))) = (rd x4 (wrap64 ((rd x93 x95) - 1))) then (some true) else (laws_FnFit.l3 k x3 x4 x12 x15 x68 x69 x78 x79 x80 x93 x94 (wrap64 (x95 + 1)))) else (none)) else (none)) else (none)) else (none)) else (none)) else (none)) else (laws_FnFit.l2 k x3 x4 x12 x68 x69 x78 x79 (wrap64 (x80 + 1)))
end
def laws_FnFit.f (k : Nat) (a0 : ByteArray) (l1 : List Int) : Option (Bool) := if (a0.size : Int) > 1048576 then (some true) else ((impl_CellsFit.f a0 l1).bind fun t765 => ((spec_CellsFit.f a0 l1).bind fun t766 => (if (t765 != t766) = true then (some false) else ((impl_LivesOf.f a0).bind fun bt767 => (if bt767.2 = true then (laws_FnFit.j0 k a0 l1 t765 ((bt767.1.length : Int) != (l1.length : Int))) else (laws_FnFit.j0 k a0 l1 t765 true))))))
set_option maxHeartbeats 8000000 in
set_option maxRecDepth 100000 in
theorem laws_FnFit.calls (w0 : World) (v : Value) (n : Nat) (xs : Nat → Int) (hv : BArg w0 v n xs) (hn : n ≤ 1048576) (hL0 : LaidW w0) (r : Bool) (P : ∀ (a0 : ByteArray) (l1 : List Int), a0.size ≤ 900000 → l1.length ≤ 600 → (∀ x ∈ l1, -1 ≤ x ∧ x ≤ 600) → ∃ k, laws_FnFit.f k a0 l1 = some r) :
  Calls Tryz.prog 8 #[v] w0 fun e w' => e = .returned (.bool r) ∧ Below w0.heap.size w0 w' := by
 have HL0 := Az.mk hL0
 have HP := Az.mk P
 clear hL0 P
 obtain ⟨A0, c0, rfl⟩ : ∃ A c, v = .slice A n c := by
  rcases hv with ⟨rfl, rfl⟩ | ⟨a, cap, rfl, _⟩
  ·exact ⟨none, 0, rfl⟩
  ·exact ⟨some a, cap, rfl⟩
 have HV := Az.mk hv
 have hnb : decide ((1048576 : Int) < (n : Int)) = false := by simp; omega
 clear hv
 go_enter Tryz.func8, Tryz.ntmps8
 go_wp2_with fail
 refine (drawFit_any w0 _ n xs HV.out hn).mono ?_
 rintro e w ⟨a0, A1, c1, l1, ha0, hl6, hx6, rfl, hc1, hr1, hb0⟩
 obtain ⟨k, h⟩ := HP.out a0 l1 ha0 hl6 hx6
 have HB00 := Az.mk hb0
 have HLd := Az.mk (HL0.out.below hb0)
 have HR1 := Az.mk hr1
 have HC1 := Az.mk hc1
 have HB := Az.mk (Below.refl w.heap.size w)
 clear hb0 hr1 hc1 hnb hx6 HP HL0 HV
 have H : (if (a0.size : Int) > 1048576 then (some true) else ((impl_CellsFit.f a0 l1).bind fun t765 => ((spec_CellsFit.f a0 l1).bind fun t766 => (if (t765 != t766) = true then (some false) else ((impl_LivesOf.f a0).bind fun bt767 => (if bt767.2 = true then (laws_FnFit.j0 k a0 l1 t765 ((bt767.1.length : Int) != (l1.length : Int))) else (laws_FnFit.j0 k a0 l1 t765 true))))))) = some r := h
 clear h
 by_cases c3 : (a0.size : Int) > 1048576
 ·exfalso; omega
 ·rw [if_neg c3] at H
  have c3b0 : decide (1048576 < (a0.size : Int)) = false := decide_eq_false c3
  have c3b1 : decide (1048576 < a0.size) = false := decide_eq_false (by omega)
  clear c3
  replace H := Option.bind_eq_some_iff.mp H
  obtain ⟨t765, A40, H⟩ := H
  replace H : ((spec_CellsFit.f a0 l1).bind fun t766 => (if (t765 != t766) = true then (some false) else ((impl_LivesOf.f a0).bind fun bt767 => (if bt767.2 = true then (laws_FnFit.j0 k a0 l1 t765 ((bt767.1.length : Int) != (l1.length : Int))) else (laws_FnFit.j0 k a0 l1 t765 true))))) = some r := H
  have A4 := Az.mk A40
  clear A40
  replace H := Option.bind_eq_some_iff.mp H
  obtain ⟨t766, A50, H⟩ := H
  replace H : (if (t765 != t766) = true then (some false) else ((impl_LivesOf.f a0).bind fun bt767 => (if bt767.2 = true then (laws_FnFit.j0 k a0 l1 t765 ((bt767.1.length : Int) != (l1.length : Int))) else (laws_FnFit.j0 k a0 l1 t765 true)))) = some r := H
  have A5 := Az.mk A50
  clear A50
  by_cases c6 : (t765 != t766) = true
  ·rw [if_pos c6] at H
   have c6b0 : (t765 != t766) = true := c6
   (try (have c6b1 : decide (t765 = t766) = false := by simpa using c6))
   (try (have c6b2 : (t765 == t766) = false := by simpa using c6))
   (try (have c6b3 : ¬ (t765 = t766) := by simpa using c6))
   clear c6
   obtain rfl := Option.some.inj H
   go_wp2_with (first | (go_at_call 26; (with_reducible refine (impl_CellsFit.calls a0 _ _ l1 t765 _ ?side1 ?side2 (HLd.out.below (by repeat first|exact HB.out|apply bA|apply bN|apply bD)) A4.out).mono ?_); (case side1 => repeat (first | exact HR1.out | (with_reducible refine Kd.C_alloc ?_ _) | (with_reducible refine Kd.C_drewN ?_ _) | (with_reducible refine Kd.C_drew ?_))); (case side2 => exact HC1.out); rintro e w7 ⟨rfl, hb⟩; have n0_ := Az.mk (bS (by repeat first|exact HB.out|apply bA|apply bN|apply bD) hb); clear HB; have HB := n0_; clear n0_; (try clear hb); (try clear hb2); (try clear hk); (try clear hi)) | (go_at_call 47; (with_reducible refine (spec_CellsFit.calls a0 _ _ l1 t766 _ ?side1 ?side2 A5.out).mono ?_); (case side1 => repeat (first | exact (Kd.C_below HR1.out HB.out) | (with_reducible refine Kd.C_alloc ?_ _) | (with_reducible refine Kd.C_drewN ?_ _) | (with_reducible refine Kd.C_drew ?_))); (case side2 => exact HC1.out); rintro e w8 ⟨rfl, hb⟩; have n0_ := Az.mk (bS (by repeat first|exact HB.out|apply bA|apply bN|apply bD) hb); clear HB; have HB := n0_; clear n0_; (try clear hb); (try clear hb2); (try clear hk); (try clear hi)))
   repeat (go_quiet (first | (go_at_call 26; (with_reducible refine (impl_CellsFit.calls a0 _ _ l1 t765 _ ?side1 ?side2 (HLd.out.below (by repeat first|exact HB.out|apply bA|apply bN|apply bD)) A4.out).mono ?_); (case side1 => repeat (first | exact HR1.out | (with_reducible refine Kd.C_alloc ?_ _) | (with_reducible refine Kd.C_drewN ?_ _) | (with_reducible refine Kd.C_drew ?_))); (case side2 => exact HC1.out); rintro e w7 ⟨rfl, hb⟩; have n0_ := Az.mk (bS (by repeat first|exact HB.out|apply bA|apply bN|apply bD) hb); clear HB; have HB := n0_; clear n0_; (try clear hb); (try clear hb2); (try clear hk); (try clear hi)) | (go_at_call 47; (with_reducible refine (spec_CellsFit.calls a0 _ _ l1 t766 _ ?side1 ?side2 A5.out).mono ?_); (case side1 => repeat (first | exact (Kd.C_below HR1.out HB.out) | (with_reducible refine Kd.C_alloc ?_ _) | (with_reducible refine Kd.C_drewN ?_ _) | (with_reducible refine Kd.C_drew ?_))); (case side2 => exact HC1.out); rintro e w8 ⟨rfl, hb⟩; have n0_ := Az.mk (bS (by repeat first|exact HB.out|apply bA|apply bN|apply bD) hb); clear HB; have HB := n0_; clear n0_; (try clear hb); (try clear hb2); (try clear hk); (try clear hi))); try go_wp2_with (first | (go_at_call 26; (with_reducible refine (impl_CellsFit.calls a0 _ _ l1 t765 _ ?side1 ?side2 (HLd.out.below (by repeat first|exact HB.out|apply bA|apply bN|apply bD)) A4.out).mono ?_); (case side1 => repeat (first | exact HR1.out | (with_reducible refine Kd.C_alloc ?_ _) | (with_reducible refine Kd.C_drewN ?_ _) | (with_reducible refine Kd.C_drew ?_))); (case side2 => exact HC1.out); rintro e w7 ⟨rfl, hb⟩; have n0_ := Az.mk (bS (by repeat first|exact HB.out|apply bA|apply bN|apply bD) hb); clear HB; have HB := n0_; clear n0_; (try clear hb); (try clear hb2); (try clear hk); (try clear hi)) | (go_at_call 47; (with_reducible refine (spec_CellsFit.calls a0 _ _ l1 t766 _ ?side1 ?side2 A5.out).mono ?_); (case side1 => repeat (first | exact (Kd.C_below HR1.out HB.out) | (with_reducible refine Kd.C_alloc ?_ _) | (with_reducible refine Kd.C_drewN ?_ _) | (with_reducible refine Kd.C_drew ?_))); (case side2 => exact HC1.out); rintro e w8 ⟨rfl, hb⟩; have n0_ := Az.mk (bS (by repeat first|exact HB.out|apply bA|apply bN|apply bD) hb); clear HB; have HB := n0_; clear n0_; (try clear hb); (try clear hb2); (try clear hk); (try clear hi))))
   go_ret
   exact ⟨by first | rfl | (simp [errW_none, errW_some] <;> rfl) | (simp [*, errW_none, errW_some] <;> rfl), bS HB00.out (by repeat first|exact HB.out|apply bA|apply bN|apply bD)⟩
  ·rw [if_neg c6] at H
   have c6b0 : (t765 != t766) = false := by simpa using c6
   (try (have c6b1 : decide (t765 = t766) = true := by simpa using c6))
   (try (have c6b2 : (t765 == t766) = true := by simpa using c6))
   clear c6
   replace H := Option.bind_eq_some_iff.mp H
   obtain ⟨⟨t767, t768⟩, A90, H⟩ := H
   replace H : (if t768 = true then (laws_FnFit.j0 k a0 l1 t765 ((t767.length : Int) != (l1.length : Int))) else (laws_FnFit.j0 k a0 l1 t765 true)) = some r := H
   have A9 := Az.mk A90
   clear A90
   have HC10 := Az.mk H
   clear H
   go_upto_region 8 with (first | (go_at_call 26; (with_reducible refine (impl_CellsFit.calls a0 _ _ l1 t765 _ ?side1 ?side2 (HLd.out.below (by repeat first|exact HB.out|apply bA|apply bN|apply bD)) A4.out).mono ?_); (case side1 => repeat (first | exact HR1.out | (with_reducible refine Kd.C_alloc ?_ _) | (with_reducible refine Kd.C_drewN ?_ _) | (with_reducible refine Kd.C_drew ?_))); (case side2 => exact HC1.out); rintro e w11 ⟨rfl, hb⟩; have n0_ := Az.mk (bS (by repeat first|exact HB.out|apply bA|apply bN|apply bD) hb); clear HB; have HB := n0_; clear n0_; (try clear hb); (try clear hb2); (try clear hk); (try clear hi)) | (go_at_call 47; (with_reducible refine (spec_CellsFit.calls a0 _ _ l1 t766 _ ?side1 ?side2 A5.out).mono ?_); (case side1 => repeat (first | exact (Kd.C_below HR1.out HB.out) | (with_reducible refine Kd.C_alloc ?_ _) | (with_reducible refine Kd.C_drewN ?_ _) | (with_reducible refine Kd.C_drew ?_))); (case side2 => exact HC1.out); rintro e w12 ⟨rfl, hb⟩; have n0_ := Az.mk (bS (by repeat first|exact HB.out|apply bA|apply bN|apply bD) hb); clear HB; have HB := n0_; clear n0_; (try clear hb); (try clear hb2); (try clear hk); (try clear hi)) | (go_at_call 14; (with_reducible refine (impl_LivesOf.calls a0 t767 t768 _ (HLd.out.below (by repeat first|exact HB.out|apply bA|apply bN|apply bD)) A9.out).mono ?_); rintro e w13 ⟨v769, rfl, ho0, hb⟩; have n0_ := Az.mk (Kd.R_lower ho0 (bZ (by repeat first|exact HB.out|apply bA|apply bN|apply bD))); have n1_ := Az.mk (bS (by repeat first|exact HB.out|apply bA|apply bN|apply bD) hb); clear HB; have HO770 := n0_; have HB := n1_; clear n0_ n1_; (try clear hb); (try clear hb2); (try clear hk); (try clear hi); (try clear ho0)))
   repeat (go_quiet (first | (go_at_call 26; (with_reducible refine (impl_CellsFit.calls a0 _ _ l1 t765 _ ?side1 ?side2 (HLd.out.below (by repeat first|exact HB.out|apply bA|apply bN|apply bD)) A4.out).mono ?_); (case side1 => repeat (first | exact HR1.out | (with_reducible refine Kd.C_alloc ?_ _) | (with_reducible refine Kd.C_drewN ?_ _) | (with_reducible refine Kd.C_drew ?_))); (case side2 => exact HC1.out); rintro e w11 ⟨rfl, hb⟩; have n0_ := Az.mk (bS (by repeat first|exact HB.out|apply bA|apply bN|apply bD) hb); clear HB; have HB := n0_; clear n0_; (try clear hb); (try clear hb2); (try clear hk); (try clear hi)) | (go_at_call 47; (with_reducible refine (spec_CellsFit.calls a0 _ _ l1 t766 _ ?side1 ?side2 A5.out).mono ?_); (case side1 => repeat (first | exact (Kd.C_below HR1.out HB.out) | (with_reducible refine Kd.C_alloc ?_ _) | (with_reducible refine Kd.C_drewN ?_ _) | (with_reducible refine Kd.C_drew ?_))); (case side2 => exact HC1.out); rintro e w12 ⟨rfl, hb⟩; have n0_ := Az.mk (bS (by repeat first|exact HB.out|apply bA|apply bN|apply bD) hb); clear HB; have HB := n0_; clear n0_; (try clear hb); (try clear hb2); (try clear hk); (try clear hi)) | (go_at_call 14; (with_reducible refine (impl_LivesOf.calls a0 t767 t768 _ (HLd.out.below (by repeat first|exact HB.out|apply bA|apply bN|apply bD)) A9.out).mono ?_); rintro e w13 ⟨v769, rfl, ho0, hb⟩; have n0_ := Az.mk (Kd.R_lower ho0 (bZ (by repeat first|exact HB.out|apply bA|apply bN|apply bD))); have n1_ := Az.mk (bS (by repeat first|exact HB.out|apply bA|apply bN|apply bD) hb); clear HB; have HO770 := n0_; have HB := n1_; clear n0_ n1_; (try clear hb); (try clear hb2); (try clear hk); (try clear hi); (try clear ho0))); go_upto_region 8 with (first | (go_at_call 26; (with_reducible refine (impl_CellsFit.calls a0 _ _ l1 t765 _ ?side1 ?side2 (HLd.out.below (by repeat first|exact HB.out|apply bA|apply bN|apply bD)) A4.out).mono ?_); (case side1 => repeat (first | exact HR1.out | (with_reducible refine Kd.C_alloc ?_ _) | (with_reducible refine Kd.C_drewN ?_ _) | (with_reducible refine Kd.C_drew ?_))); (case side2 => exact HC1.out); rintro e w11 ⟨rfl, hb⟩; have n0_ := Az.mk (bS (by repeat first|exact HB.out|apply bA|apply bN|apply bD) hb); clear HB; have HB := n0_; clear n0_; (try clear hb); (try clear hb2); (try clear hk); (try clear hi)) | (go_at_call 47; (with_reducible refine (spec_CellsFit.calls a0 _ _ l1 t766 _ ?side1 ?side2 A5.out).mono ?_); (case side1 => repeat (first | exact (Kd.C_below HR1.out HB.out) | (with_reducible refine Kd.C_alloc ?_ _) | (with_reducible refine Kd.C_drewN ?_ _) | (with_reducible refine Kd.C_drew ?_))); (case side2 => exact HC1.out); rintro e w12 ⟨rfl, hb⟩; have n0_ := Az.mk (bS (by repeat first|exact HB.out|apply bA|apply bN|apply bD) hb); clear HB; have HB := n0_; clear n0_; (try clear hb); (try clear hb2); (try clear hk); (try clear hi)) | (go_at_call 14; (with_reducible refine (impl_LivesOf.calls a0 t767 t768 _ (HLd.out.below (by repeat first|exact HB.out|apply bA|apply bN|apply bD)) A9.out).mono ?_); rintro e w13 ⟨v769, rfl, ho0, hb⟩; have n0_ := Az.mk (Kd.R_lower ho0 (bZ (by repeat first|exact HB.out|apply bA|apply bN|apply bD))); have n1_ := Az.mk (bS (by repeat first|exact HB.out|apply bA|apply bN|apply bD) hb); clear HB; have HO770 := n0_; have HB := n1_; clear n0_ n1_; (try clear hb); (try clear hb2); (try clear hk); (try clear hi); (try clear ho0))))
   (try simp only [Act.put, List.setIfInBounds_toArray, List.set_cons_zero, List.set_cons_succ])
   go_cut [47] (fun v47 wc => ∃ (kq : Nat) (x47_9 : Bool), v47 = .bool x47_9 ∧ Az (laws_FnFit.j0 kq a0 l1 t765 x47_9 = some r) ∧ Az (kq ≤ k) ∧ Az (Below w.heap.size w wc))
   case first =>
    have H := HC10.out
    clear HC10
    by_cases c14 : t768 = true
    ·subst c14
     have H1 : (laws_FnFit.j0 k a0 l1 t765 ((t767.length : Int) != (l1.length : Int))) = some r := by rw [if_pos rfl] at H; exact H
     clear H
     have H := H1
     clear H1
     have H' := Az.mk H
     clear H
     obtain ⟨Ao15, co15, eo15⟩ := Kd.R_slice HO770.out
     subst eo15
     go_wp2
     repeat (go_quiet (fail); try go_wp2)
     go_meet
     case rel => exact ⟨_, (((t767.length : Int) != (l1.length : Int))), (by first | rfl | (simp; done) | (simp [*]; done)), H', ⟨by first | omega | exact Nat.le_refl _⟩, ⟨by repeat (first | (with_reducible first|exact HB.out|apply bA|apply bN|apply bD) | exact HB.out)⟩⟩
    ·replace c14 := Bool.eq_false_iff.mpr c14
     subst c14
     have H1 : (laws_FnFit.j0 k a0 l1 t765 true) = some r := by rw [if_neg (show ¬ (false = true) by decide)] at H; exact H
     clear H
     have H := H1
     clear H1
     have H' := Az.mk H
     clear H
     go_wp2
     repeat (go_quiet (fail); try go_wp2)
     go_meet
     case rel => exact ⟨_, (true), (by first | rfl | (simp; done) | (simp [*]; done)), H', ⟨by first | omega | exact Nat.le_refl _⟩, ⟨by repeat (first | (with_reducible first|exact HB.out|apply bA|apply bN|apply bD) | exact HB.out)⟩⟩
   case rest =>
    clear HC10
    try clear c1
    try clear p2
    try clear c3
    try clear c3b0
    try clear c3b1
    try clear c6
    try clear c6b0
    try clear c6b1
    try clear c6b2
    try clear c8
    try clear c14
    obtain ⟨kq, x47_9, rfl, HA, HJ9, HB⟩ := hcut
    cases kq with
    | zero => exact absurd HA.out (by simp [laws_FnFit.j0])
    | succ kj9 =>
     have H := HA.out
     clear HA
     simp only [laws_FnFit.j0] at H
     by_cases c16 : x47_9 = true
     ·subst c16
      have H1 : (some (!t765)) = some r := by rw [if_pos rfl] at H; exact H
      clear H
      have H := H1
      clear H1
      obtain rfl := Option.some.inj H
      go_wp2
      repeat (go_quiet (fail); try go_wp2)
      go_ret
      exact ⟨by first | rfl | (simp [errW_none, errW_some] <;> rfl) | (simp [*, errW_none, errW_some] <;> rfl), bS HB00.out (by repeat first|exact HB.out|apply bA|apply bN|apply bD)⟩
     ·replace c16 := Bool.eq_false_iff.mpr c16
      subst c16
      have H1 : (if t765 = true then (laws_FnFit.l0 kj9 a0 0 l1 (l1.length : Int) 0) else ((laws_elWords.f kj9 a0).bind fun t773 => (laws_FnFit.l1 kj9 a0 l1 (t773.length : Int) 0))) = some r := by rw [if_neg (show ¬ (false = true) by decide)] at H; exact H
      clear H
      have H := H1
      clear H1
      by_cases c17 : t765 = true
      ·subst c17
       have H1 : (laws_FnFit.l0 kj9 a0 0 l1 (l1.length : Int) 0) = some r := by rw [if_pos rfl] at H; exact H
       clear H
       have H := H1
       clear H1
       have H' := Az.mk H
       clear H
       go_wp2
       repeat (go_quiet (fail); try go_wp2)
       go_loopg [8, 53] kj9 (fun kq v8 v53 w' => ∃ (x8_2 : Int) (x53_2 : Int), v8 = .int .i64 x8_2 ∧ v53 = .int .i64 x53_2 ∧ Az (laws_FnFit.l0 kq a0 x8_2 l1 (l1.length : Int) x53_2 = some r) ∧ Az (kq ≤ kj9) ∧ Az (Below w.heap.size w w'))
       case atStart => exact ⟨(0), (0), (by first | rfl | (simp; done) | (simp [*]; done)), (by first | rfl | (simp; done) | (simp [*]; done)), H', ⟨Nat.le_refl _⟩, ⟨by repeat (first | (with_reducible first|exact HB.out|apply bA|apply bN|apply bD) | exact HB.out)⟩⟩
       case round =>
        clear H'
        try clear c1
        try clear p2
        try clear c3
        try clear c3b0
        try clear c3b1
        try clear c6
        try clear c6b0
        try clear c6b1
        try clear c6b2
        try clear c8
        try clear c14
        try clear c16
        try clear c17
        try clear p2
        obtain ⟨x8_2, x53_2, rfl, rfl, HA, HK2, HB⟩ := hrel
        cases gk with
        | zero => exact absurd HA.out (by simp [laws_FnFit.l0])
        | succ k2 =>
         have H := HA.out
         clear HA
         simp only [laws_FnFit.l0] at H
         by_cases c18 : x53_2 < (l1.length : Int)
         ·rw [if_pos c18] at H
          have c18b0 : decide (x53_2 < (l1.length : Int)) = true := decide_eq_true c18
          clear c18
          by_cases c19 : 0 ≤ x53_2
          ·rw [if_pos c19] at H
           have c19b0 : decide (0 ≤ x53_2) = true := decide_eq_true c19
           clear c19
           by_cases c20 : x53_2 < (l1.length : Int)
           ·rw [if_pos c20] at H
            have c20b0 : decide (x53_2 < (l1.length : Int)) = true := decide_eq_true c20
            clear c20
            obtain ⟨ji21, hji21⟩ : ∃ j_ : Int, (mx x8_2 (wrap64 ((rd l1 x53_2) + 1))) = j_ := ⟨_, rfl⟩
            replace H : (laws_FnFit.l0 k2 a0 ji21 l1 (l1.length : Int) (wrap64 (x53_2 + 1))) = some r := by first | (rw [hji21] at H; exact H) | (simp only [hji21] at H ⊢; exact H)
            have hji21_ : (if x8_2 < (wrap64 ((rd l1 x53_2) + 1)) then (wrap64 ((rd l1 x53_2) + 1)) else x8_2) = ji21 := hji21
            have H' := Az.mk H
            clear H
            have p771 : 0 ≤ (x53_2 : Int) := of_decide_eq_true (by first|(with_reducible assumption)|assumption)
            have q771 : x53_2 < (l1.length : Int) := of_decide_eq_true (by first|(with_reducible assumption)|assumption)
            obtain ⟨ad771, e771, hx771_0⟩ := Kd.at_int HR1.out x53_2 p771 q771
            cases e771
            replace hx771_0 := (HB.out.cell (World.block_lt_of_cell? w _ hx771_0)).trans hx771_0
            replace p771 := eq_true p771
            replace q771 := eq_true q771
            go_wp2
            repeat (go_quiet (fail); try go_wp2)
            go_roundg k2
            case measure => have := HJ9.out; have := HK2.out; omega
            case rel => exact ⟨(ji21), (wrap64 (x53_2 + 1)), (by first | rfl | (simp; done) | (simp only [← hji21] <;> (first | rfl | simp)) | (simp [*]; done)), (by first | rfl | (simp; done) | (simp [*]; done)), H', ⟨by have := HJ9.out; have := HK2.out; omega⟩, ⟨by repeat (first | (with_reducible first|exact HB.out|apply bA|apply bN|apply bD) | exact HB.out)⟩⟩
           ·rw [if_neg c20] at H
            exact absurd H (by simp)
          ·rw [if_neg c19] at H
           exact absurd H (by simp)
         ·rw [if_neg c18] at H
          have c18b0 : decide (x53_2 < (l1.length : Int)) = false := decide_eq_false c18
          clear c18
          replace H := Option.bind_eq_some_iff.mp H
          obtain ⟨t772, A220, H⟩ := H
          replace H : (some (decide (x8_2 ≥ t772))) = some r := H
          have A22 := Az.mk A220
          clear A220
          obtain rfl := Option.some.inj H
          go_wp2_with (first | (go_at_call 15; (with_reducible refine (impl_MostAlive.calls k2 a0 t772 _ (HLd.out.below (by repeat first|exact HB.out|apply bA|apply bN|apply bD)) A22.out).mono ?_); rintro e w23 ⟨rfl, hb⟩; have n0_ := Az.mk (bS (by repeat first|exact HB.out|apply bA|apply bN|apply bD) hb); clear HB; have HB := n0_; clear n0_; (try clear hb); (try clear hb2); (try clear hk); (try clear hi)))
          repeat (go_quiet (first | (go_at_call 15; (with_reducible refine (impl_MostAlive.calls k2 a0 t772 _ (HLd.out.below (by repeat first|exact HB.out|apply bA|apply bN|apply bD)) A22.out).mono ?_); rintro e w23 ⟨rfl, hb⟩; have n0_ := Az.mk (bS (by repeat first|exact HB.out|apply bA|apply bN|apply bD) hb); clear HB; have HB := n0_; clear n0_; (try clear hb); (try clear hb2); (try clear hk); (try clear hi))); try go_wp2_with (first | (go_at_call 15; (with_reducible refine (impl_MostAlive.calls k2 a0 t772 _ (HLd.out.below (by repeat first|exact HB.out|apply bA|apply bN|apply bD)) A22.out).mono ?_); rintro e w23 ⟨rfl, hb⟩; have n0_ := Az.mk (bS (by repeat first|exact HB.out|apply bA|apply bN|apply bD) hb); clear HB; have HB := n0_; clear n0_; (try clear hb); (try clear hb2); (try clear hk); (try clear hi))))
          go_ret
          exact ⟨by first | rfl | (simp [errW_none, errW_some] <;> rfl) | (simp [*, errW_none, errW_some] <;> rfl), bS HB00.out (by repeat first|exact HB.out|apply bA|apply bN|apply bD)⟩
      ·replace c17 := Bool.eq_false_iff.mpr c17
       subst c17
       have H1 : ((laws_elWords.f kj9 a0).bind fun t773 => (laws_FnFit.l1 kj9 a0 l1 (t773.length : Int) 0)) = some r := by rw [if_neg (show ¬ (false = true) by decide)] at H; exact H
       clear H
       have H := H1
       clear H1
       replace H := Option.bind_eq_some_iff.mp H
       obtain ⟨t773, A240, H⟩ := H
       replace H : (laws_FnFit.l1 kj9 a0 l1 (t773.length : Int) 0) = some r := H
       have A24 := Az.mk A240
       clear A240
       have H' := Az.mk H
       clear H
       go_wp2_with (first | (go_at_call 33; (with_reducible refine (laws_elWords.calls kj9 a0 t773 _ A24.out).mono ?_); rintro e w25 ⟨v774, rfl, ho0, hb⟩; have n0_ := Az.mk (Kd.R_lower ho0 (bZ (by repeat first|exact HB.out|apply bA|apply bN|apply bD))); have n1_ := Az.mk (bS (by repeat first|exact HB.out|apply bA|apply bN|apply bD) hb); clear HB; have HO775 := n0_; have HB := n1_; clear n0_ n1_; (try clear hb); (try clear hb2); (try clear hk); (try clear hi); (try clear ho0); obtain ⟨Ao26, co26, eo26⟩ := Kd.R_slice HO775.out; subst eo26))
       repeat (go_quiet (first | (go_at_call 33; (with_reducible refine (laws_elWords.calls kj9 a0 t773 _ A24.out).mono ?_); rintro e w25 ⟨v774, rfl, ho0, hb⟩; have n0_ := Az.mk (Kd.R_lower ho0 (bZ (by repeat first|exact HB.out|apply bA|apply bN|apply bD))); have n1_ := Az.mk (bS (by repeat first|exact HB.out|apply bA|apply bN|apply bD) hb); clear HB; have HO775 := n0_; have HB := n1_; clear n0_ n1_; (try clear hb); (try clear hb2); (try clear hk); (try clear hi); (try clear ho0); obtain ⟨Ao26, co26, eo26⟩ := Kd.R_slice HO775.out; subst eo26)); try go_wp2_with (first | (go_at_call 33; (with_reducible refine (laws_elWords.calls kj9 a0 t773 _ A24.out).mono ?_); rintro e w25 ⟨v774, rfl, ho0, hb⟩; have n0_ := Az.mk (Kd.R_lower ho0 (bZ (by repeat first|exact HB.out|apply bA|apply bN|apply bD))); have n1_ := Az.mk (bS (by repeat first|exact HB.out|apply bA|apply bN|apply bD) hb); clear HB; have HO775 := n0_; have HB := n1_; clear n0_ n1_; (try clear hb); (try clear hb2); (try clear hk); (try clear hi); (try clear ho0); obtain ⟨Ao26, co26, eo26⟩ := Kd.R_slice HO775.out; subst eo26)))
       go_loopg [69] kj9 (fun kq v69 w' => ∃ (x69_2 : Int), v69 = .int .i64 x69_2 ∧ Az (laws_FnFit.l1 kq a0 l1 (t773.length : Int) x69_2 = some r) ∧ Az (kq ≤ kj9) ∧ Az (Below w.heap.size w w'))
       case atStart => exact ⟨(0), (by first | rfl | (simp; done) | (simp [*]; done)), H', ⟨Nat.le_refl _⟩, ⟨by repeat (first | (with_reducible first|exact HB.out|apply bA|apply bN|apply bD) | exact HB.out)⟩⟩
       case round =>
        clear H'
        try clear c1
        try clear c2
        try clear p2
        try clear c3
        try clear c3b0
        try clear c3b1
        try clear c6
        try clear c6b0
        try clear c6b1
        try clear c6b2
        try clear p6
        try clear p7
        try clear q7
        try clear hx7
        try clear c8
        try clear c14
        try clear c16
        try clear c17
        try clear c18
        try clear c18b0
        try clear c19
        try clear c19b0
        try clear c20
        try clear c20b0
        try clear hx771_0
        try clear p2
        try clear p771
        try clear q771
        obtain ⟨x69_2, rfl, HA, HK2, HB⟩ := hrel
        cases gk with
        | zero => exact absurd HA.out (by simp [laws_FnFit.l1])
        | succ k2 =>
         have H := HA.out
         clear HA
         simp only [laws_FnFit.l1] at H
         by_cases c27 : x69_2 < (t773.length : Int)
         ·rw [if_pos c27] at H
          have c27b0 : decide (x69_2 < (t773.length : Int)) = true := decide_eq_true c27
          clear c27
          replace H := Option.bind_eq_some_iff.mp H
          obtain ⟨⟨t776, t777⟩, A280, H⟩ := H
          replace H : (laws_FnFit.l2 k2 a0 l1 t776 (t773.length : Int) x69_2 t776 (t776.length : Int) 0) = some r := H
          have A28 := Az.mk A280
          clear A280
          have H' := Az.mk H
          clear H
          go_wp2_with (first | (go_at_call 42; (with_reducible refine (impl_AliveAt.calls k2 a0 x69_2 t776 t777 _ (HLd.out.below (by repeat first|exact HB.out|apply bA|apply bN|apply bD)) A28.out).mono ?_); rintro e w29 ⟨v778, rfl, ho0, hb⟩; have n0_ := Az.mk (Kd.R_lower ho0 (bZ (by repeat first|exact HB.out|apply bA|apply bN|apply bD))); have n1_ := Az.mk (bS (by repeat first|exact HB.out|apply bA|apply bN|apply bD) hb); clear HB; have HO779 := n0_; have HB := n1_; clear n0_ n1_; (try clear hb); (try clear hb2); (try clear hk); (try clear hi); (try clear ho0); obtain ⟨Ao30, co30, eo30⟩ := Kd.R_slice HO779.out; subst eo30))
          repeat (go_quiet (first | (go_at_call 42; (with_reducible refine (impl_AliveAt.calls k2 a0 x69_2 t776 t777 _ (HLd.out.below (by repeat first|exact HB.out|apply bA|apply bN|apply bD)) A28.out).mono ?_); rintro e w29 ⟨v778, rfl, ho0, hb⟩; have n0_ := Az.mk (Kd.R_lower ho0 (bZ (by repeat first|exact HB.out|apply bA|apply bN|apply bD))); have n1_ := Az.mk (bS (by repeat first|exact HB.out|apply bA|apply bN|apply bD) hb); clear HB; have HO779 := n0_; have HB := n1_; clear n0_ n1_; (try clear hb); (try clear hb2); (try clear hk); (try clear hi); (try clear ho0); obtain ⟨Ao30, co30, eo30⟩ := Kd.R_slice HO779.out; subst eo30)); try go_wp2_with (first | (go_at_call 42; (with_reducible refine (impl_AliveAt.calls k2 a0 x69_2 t776 t777 _ (HLd.out.below (by repeat first|exact HB.out|apply bA|apply bN|apply bD)) A28.out).mono ?_); rintro e w29 ⟨v778, rfl, ho0, hb⟩; have n0_ := Az.mk (Kd.R_lower ho0 (bZ (by repeat first|exact HB.out|apply bA|apply bN|apply bD))); have n1_ := Az.mk (bS (by repeat first|exact HB.out|apply bA|apply bN|apply bD) hb); clear HB; have HO779 := n0_; have HB := n1_; clear n0_ n1_; (try clear hb); (try clear hb2); (try clear hk); (try clear hi); (try clear ho0); obtain ⟨Ao30, co30, eo30⟩ := Kd.R_slice HO779.out; subst eo30)))
          go_loopg [80] k2 (fun kq v80 w' => ∃ (x80_3 : Int), v80 = .int .i64 x80_3 ∧ Az (laws_FnFit.l2 kq a0 l1 t776 (t773.length : Int) x69_2 t776 (t776.length : Int) x80_3 = some r) ∧ Az (kq ≤ k2) ∧ Az (Kd.R (Kd.int .i64) 3 w' w.heap.size (fun _ => True) (.slice Ao30 t776.length co30) t776) ∧ Az (Kd.R (Kd.int .i64) 3 w' w.heap.size (fun _ => True) (.slice Ao30 t776.length co30) t776) ∧ Az (Below w.heap.size w w'))
          case atStart => exact ⟨(0), (by first | rfl | (simp; done) | (simp [*]; done)), H', ⟨Nat.le_refl _⟩, ⟨by (with_reducible repeat first|apply Kd.Ra|apply Kd.Rn|apply Kd.Rw); exact HO779.out⟩, ⟨by (with_reducible repeat first|apply Kd.Ra|apply Kd.Rn|apply Kd.Rw); exact HO779.out⟩, ⟨by repeat (first | (with_reducible first|exact HB.out|apply bA|apply bN|apply bD) | exact HB.out)⟩⟩
          case round =>
           clear H'
           try clear c1
           try clear c2
           try clear p2
           try clear c3
           try clear c3b0
           try clear c3b1
           try clear c6
           try clear c6b0
           try clear c6b1
           try clear c6b2
           try clear p6
           try clear p7
           try clear q7
           try clear hx7
           try clear c8
           try clear c14
           try clear c16
           try clear c17
           try clear c18
           try clear c18b0
           try clear c19
           try clear c19b0
           try clear c20
           try clear c20b0
           try clear c27
           try clear c27b0
           try clear hx771_0
           try clear p2
           try clear p6
           try clear p7
           try clear p771
           try clear q7
           try clear q771
           obtain ⟨x80_3, rfl, HA, HK3, HO_12, HO_78, HB⟩ := hrel
           cases gk with
           | zero => exact absurd HA.out (by simp [laws_FnFit.l2])
           | succ k3 =>
            have H := HA.out
            clear HA
            simp only [laws_FnFit.l2] at H
            by_cases c31 : x80_3 < (t776.length : Int)
            ·rw [if_pos c31] at H
             have c31b0 : decide (x80_3 < (t776.length : Int)) = true := decide_eq_true c31
             clear c31
             by_cases c32 : 0 ≤ x80_3
             ·rw [if_pos c32] at H
              have c32b0 : decide (0 ≤ x80_3) = true := decide_eq_true c32
              clear c32
              by_cases c33 : x80_3 < (t776.length : Int)
              ·rw [if_pos c33] at H
               have c33b0 : decide (x80_3 < (t776.length : Int)) = true := decide_eq_true c33
               clear c33
               obtain ⟨ji34, hji34⟩ : ∃ j_ : Int, (wrap64 ((rd t776 x80_3) - 1)) = j_ := ⟨_, rfl⟩
               replace H : (if 0 ≤ (ji34) then (if (ji34) < (l1.length : Int) then (if (rd l1 (ji34)) < 0 then (some true) else (if x80_3 ≤ (t776.length : Int) then ((some (t776.take (x80_3 : Int).toNat : List Int)).bind fun y782 => (laws_FnFit.l3 k3 a0 l1 t776 (rd t776 x80_3) (t773.length : Int) x69_2 t776 (t776.length : Int) x80_3 y782 (y782.length : Int) 0)) else (none))) else (none)) else (none)) = some r := by first | (rw [hji34] at H; exact H) | (simp only [hji34] at H ⊢; exact H)
               have hji34w : (IntKind.i64.wrap ((rd t776 x80_3) - 1)) = ji34 := (i64_w _).trans hji34
               by_cases c35 : 0 ≤ (ji34)
               ·rw [if_pos c35] at H
                have c35b0 : decide (0 ≤ (ji34)) = true := decide_eq_true c35
                clear c35
                by_cases c36 : (ji34) < (l1.length : Int)
                ·rw [if_pos c36] at H
                 have c36b0 : decide ((ji34) < (l1.length : Int)) = true := decide_eq_true c36
                 clear c36
                 by_cases c37 : (rd l1 (ji34)) < 0
                 ·rw [if_pos c37] at H
                  have c37b0 : decide ((rd l1 (ji34)) < 0) = true := decide_eq_true c37
                  clear c37
                  obtain rfl := Option.some.inj H
                  have p780 : 0 ≤ (x80_3 : Int) := of_decide_eq_true (by first|(with_reducible assumption)|assumption)
                  have q780 : x80_3 < (t776.length : Int) := of_decide_eq_true (by first|(with_reducible assumption)|assumption)
                  obtain ⟨ad780, e780, hx780_0⟩ := Kd.at_int (Kd.R_reads' HO_78.out).2.2 x80_3 p780 q780
                  cases e780
                  replace p780 := eq_true p780
                  replace q780 := eq_true q780
                  have p781 : 0 ≤ ((ji34) : Int) := of_decide_eq_true (by first|(with_reducible assumption)|assumption)
                  have q781 : (ji34) < (l1.length : Int) := of_decide_eq_true (by first|(with_reducible assumption)|assumption)
                  obtain ⟨ad781, e781, hx781_0⟩ := Kd.at_int HR1.out (ji34) p781 q781
                  cases e781
                  replace hx781_0 := (HB.out.cell (World.block_lt_of_cell? w _ hx781_0)).trans hx781_0
                  replace p781 := eq_true p781
                  replace q781 := eq_true q781
                  go_wp2
                  repeat (go_quiet (fail); try go_wp2)
                  go_ret
                  exact ⟨by first | rfl | (simp [errW_none, errW_some] <;> rfl) | (simp only [← hji34]; first | rfl | (simp [errW_none, errW_some] <;> rfl)) | (simp [*, errW_none, errW_some] <;> rfl), bS HB00.out (by repeat first|exact HB.out|apply bA|apply bN|apply bD)⟩
                 ·rw [if_neg c37] at H
                  have c37b0 : decide ((rd l1 (ji34)) < 0) = false := decide_eq_false c37
                  clear c37
                  have c38b0 := eq_true (of_decide_eq_true (by first|(with_reducible assumption)|assumption) : 0 ≤ x80_3)
                  by_cases c39 : x80_3 ≤ (t776.length : Int)
                  ·rw [if_pos c39] at H
                   have c39b0 := eq_true c39
                   have c39b1 : decide (x80_3 ≤ (t776.length : Int)) = true := decide_eq_true c39
                   clear c39
                   obtain ⟨y782, hy782⟩ : ∃ y_ : List Int, y_ = (t776.take (x80_3 : Int).toNat) := ⟨_, rfl⟩
                   replace H : (laws_FnFit.l3 k3 a0 l1 t776 (rd t776 x80_3) (t773.length : Int) x69_2 t776 (t776.length : Int) x80_3 y782 (y782.length : Int) 0) = some r := by first | (rw [hy782]; with_reducible exact H) | (have H2_ := (Option.bind_some _ _).symm.trans H; rw [hy782]; with_reducible exact H2_) | (have H2_ := (Option.bind_some _ _).symm.trans H; with_reducible exact H2_) | with_reducible exact H | (rw [hy782]; exact H) | exact H
                   have Ny782 := Az.mk hy782
                   clear hy782
                   have H' := Az.mk H
                   clear H
                   have p780 : 0 ≤ (x80_3 : Int) := of_decide_eq_true (by first|(with_reducible assumption)|assumption)
                   have q780 : x80_3 < (t776.length : Int) := of_decide_eq_true (by first|(with_reducible assumption)|assumption)
                   obtain ⟨ad780, e780, hx780_0⟩ := Kd.at_int (Kd.R_reads' HO_78.out).2.2 x80_3 p780 q780
                   cases e780
                   replace p780 := eq_true p780
                   replace q780 := eq_true q780
                   have p781 : 0 ≤ ((ji34) : Int) := of_decide_eq_true (by first|(with_reducible assumption)|assumption)
                   have q781 : (ji34) < (l1.length : Int) := of_decide_eq_true (by first|(with_reducible assumption)|assumption)
                   obtain ⟨ad781, e781, hx781_0⟩ := Kd.at_int HR1.out (ji34) p781 q781
                   cases e781
                   replace hx781_0 := (HB.out.cell (World.block_lt_of_cell? w _ hx781_0)).trans hx781_0
                   replace p781 := eq_true p781
                   replace q781 := eq_true q781
                   have q40 : (x80_3 : Int) ≤ ((t776.length : Int) : Int) := of_decide_eq_true (by first|(with_reducible assumption)|assumption)
                   obtain ⟨i040, hi040, _, hsz40, _⟩ := info_parts info3
                   have hroom40 : t776.length ≤ co30 := (Kd.R_reads' HO_12.out).2.1
                   have hC40 : Kd.C (Kd.int .i64) _ (some ad780) t776.length t776 := (Kd.R_reads' HO_12.out).2.2
                   have hcut40 := cut_to (P := Tryz.prog) 33 3 .i64 Tryz.underlying33 hi040 (some ad780) t776.length co30 x80_3 (of_decide_eq_true (by first|(with_reducible assumption)|assumption)) q40 hroom40
                   have hr40 := Kd.C_take (m := (x80_3 : Int).toNat) hC40 (by omega)
                   have hy40 : y782.length = (x80_3 : Int).toNat := (by rw [Ny782.out, List.length_take]; omega)
                   rw [← Ny782.out] at hr40
                   rw [← hy40] at hcut40
                   have HR785 := Az.mk hr40
                   have HC785 := Az.mk (show y782.length ≤ co30 from by omega)
                   clear hr40 hC40 hroom40 hi040 hsz40
                   have KY40 := Az.mk hy40
                   clear hy40
                   have KL40 := Az.mk (show (x80_3 : Int).toNat ≤ t776.length from by omega)
                   replace q40 := eq_true q40
                   go_wp2
                   repeat (go_quiet (fail); try go_wp2)
                   go_loopg [95] k3 (fun kq v95 w' => ∃ (x95_4 : Int), v95 = .int .i64 x95_4 ∧ Az (laws_FnFit.l3 kq a0 l1 t776 (rd t776 x80_3) (t773.length : Int) x69_2 t776 (t776.length : Int) x80_3 y782 (y782.length : Int) x95_4 = some r) ∧ Az (kq ≤ k3) ∧ Az (Kd.R (Kd.int .i64) 3 w' w.heap.size (fun _ => True) (.slice (some ad780) t776.length co30) t776) ∧ Az (Kd.R (Kd.int .i64) 3 w' w.heap.size (fun _ => True) (.slice (some ad780) t776.length co30) t776) ∧ Az (Kd.C (Kd.int .i64) w' (some ad780) y782.length y782) ∧ Az (Below w.heap.size w w'))
                   case atStart => exact ⟨(0), (by first | rfl | (simp; done) | (simp [*]; done)), H', ⟨Nat.le_refl _⟩, ⟨by (with_reducible repeat first|apply Kd.Ra|apply Kd.Rn|apply Kd.Rw); exact HO_12.out⟩, ⟨by (with_reducible repeat first|apply Kd.Ra|apply Kd.Rn|apply Kd.Rw); exact HO_78.out⟩, ⟨by repeat (first | (with_reducible exact HR785.out) | (with_reducible refine Kd.C_alloc ?_ _) | (with_reducible refine Kd.C_drewN ?_ _) | (with_reducible refine Kd.C_drew ?_) | exact HR785.out)⟩, ⟨by repeat (first | (with_reducible first|exact HB.out|apply bA|apply bN|apply bD) | exact HB.out)⟩⟩
                   case round =>
                    clear H'
                    try clear c1
                    try clear c2
                    try clear p2
                    try clear c3
                    try clear c3b0
                    try clear c3b1
                    try clear q4
                    try clear c6
                    try clear c6b0
                    try clear c6b1
                    try clear c6b2
                    try clear p6
                    try clear p7
                    try clear q7
                    try clear hx7
                    try clear c8
                    try clear c14
                    try clear c16
                    try clear c17
                    try clear c18
                    try clear c18b0
                    try clear c19
                    try clear c19b0
                    try clear c20
                    try clear c20b0
                    try clear c27
                    try clear c27b0
                    try clear c31
                    try clear c31b0
                    try clear c32
                    try clear c32b0
                    try clear c33
                    try clear c33b0
                    try clear c35
                    try clear c35b0
                    try clear c36
                    try clear c36b0
                    try clear c37
                    try clear c37b0
                    try clear c38
                    try clear c38b0
                    try clear c39
                    try clear c39b0
                    try clear c39b1
                    try clear q40
                    try clear hx771_0
                    try clear hx780_0
                    try clear hx781_0
                    try clear p2
                    try clear p6
                    try clear p7
                    try clear p771
                    try clear p780
                    try clear p781
                    try clear q40
                    try clear q7
                    try clear q771
                    try clear q780
                    try clear q781
                    obtain ⟨x95_4, rfl, HA, HK4, HO_12, HO_78, HR785, HB⟩ := hrel
                    cases gk with
                    | zero => exact absurd HA.out (by simp [laws_FnFit.l3])
                    | succ k4 =>
                     have H := HA.out
                     clear HA
                     simp only [laws_FnFit.l3] at H
                     by_cases c41 : x95_4 < (y782.length : Int)
                     ·rw [if_pos c41] at H
                      have c41b0 : decide (x95_4 < (y782.length : Int)) = true := decide_eq_true c41
                      clear c41
                      by_cases c42 : 0 ≤ x95_4
                      ·rw [if_pos c42] at H
                       have c42b0 : decide (0 ≤ x95_4) = true := decide_eq_true c42
                       clear c42
                       by_cases c43 : x95_4 < (y782.length : Int)
                       ·rw [if_pos c43] at H
                        have c43b0 : decide (x95_4 < (y782.length : Int)) = true := decide_eq_true c43
                        clear c43
                        clear hji34 hji34w
                        obtain ⟨ji44, hji44⟩ : ∃ j_ : Int, (wrap64 ((rd t776 x80_3) - 1)) = j_ := ⟨_, rfl⟩
                        replace H : (if 0 ≤ (ji44) then (if (ji44) < (l1.length : Int) then (if 0 ≤ (wrap64 ((rd y782 x95_4) - 1)) then (if (wrap64 ((rd y782 x95_4) - 1)) < (l1.length : Int) then (if (rd l1 (ji44)) = (rd l1 (wrap64 ((rd y782 x95_4) - 1))) then (some true) else (laws_FnFit.l3 k4 a0 l1 t776 (rd t776 x80_3) (t773.length : Int) x69_2 t776 (t776.length : Int) x80_3 y782 (y782.length : Int) (wrap64 (x95_4 + 1)))) else (none)) else (none)) else (none)) else (none)) = some r := by first | (rw [hji44] at H; exact H) | (simp only [hji44] at H ⊢; exact H)
                        have hji44w : (IntKind.i64.wrap ((rd t776 x80_3) - 1)) = ji44 := (i64_w _).trans hji44
                        by_cases c45 : 0 ≤ (ji44)
                        ·rw [if_pos c45] at H
                         have c45b0 : decide (0 ≤ (ji44)) = true := decide_eq_true c45
                         clear c45
                         by_cases c46 : (ji44) < (l1.length : Int)
                         ·rw [if_pos c46] at H
                          have c46b0 : decide ((ji44) < (l1.length : Int)) = true := decide_eq_true c46
                          clear c46
                          obtain ⟨ji47, hji47⟩ : ∃ j_ : Int, (wrap64 ((rd y782 x95_4) - 1)) = j_ := ⟨_, rfl⟩
                          replace H : (if 0 ≤ (ji47) then (if (ji47) < (l1.length : Int) then (if (rd l1 (ji44)) = (rd l1 (ji47)) then (some true) else (laws_FnFit.l3 k4 a0 l1 t776 (rd t776 x80_3) (t773.length : Int) x69_2 t776 (t776.length : Int) x80_3 y782 (y782.length : Int) (wrap64 (x95_4 + 1)))) else (none)) else (none)) = some r := by first | (rw [hji47] at H; exact H) | (simp only [hji47] at H ⊢; exact H)
                          have hji47w : (IntKind.i64.wrap ((rd y782 x95_4) - 1)) = ji47 := (i64_w _).trans hji47
                          by_cases c48 : 0 ≤ (ji47)
                          ·rw [if_pos c48] at H
                           have c48b0 : decide (0 ≤ (ji47)) = true := decide_eq_true c48
                           clear c48
                           by_cases c49 : (ji47) < (l1.length : Int)
                           ·rw [if_pos c49] at H
                            have c49b0 : decide ((ji47) < (l1.length : Int)) = true := decide_eq_true c49
                            clear c49
                            by_cases c50 : (rd l1 (ji44)) = (rd l1 (ji47))
                            ·rw [if_pos c50] at H
                             have c50b0 : ((rd l1 (ji44)) == (rd l1 (ji47))) = true := beq_iff_eq.mpr c50
                             have c50b1 : ((rd l1 (ji44)) != (rd l1 (ji47))) = false := bne_eq_false_iff_eq.mpr c50
                             clear c50
                             obtain rfl := Option.some.inj H
                             have p786 : 0 ≤ (x95_4 : Int) := of_decide_eq_true (by first|(with_reducible assumption)|assumption)
                             have q786 : x95_4 < (y782.length : Int) := of_decide_eq_true (by first|(with_reducible assumption)|assumption)
                             obtain ⟨ad786, e786, hx786_0⟩ := Kd.at_int HR785.out x95_4 p786 q786
                             obtain rfl : ad780 = ad786 := (by injection e786)
                             skip
                             replace p786 := eq_true p786
                             replace q786 := eq_true q786
                             have p787 : 0 ≤ ((ji44) : Int) := of_decide_eq_true (by first|(with_reducible assumption)|assumption)
                             have q787 : (ji44) < (l1.length : Int) := of_decide_eq_true (by first|(with_reducible assumption)|assumption)
                             obtain ⟨ad787, e787, hx787_0⟩ := Kd.at_int HR1.out (ji44) p787 q787
                             obtain rfl : ad781 = ad787 := (by injection e787)
                             replace hx787_0 := (HB.out.cell (World.block_lt_of_cell? w _ hx787_0)).trans hx787_0
                             replace p787 := eq_true p787
                             replace q787 := eq_true q787
                             have p788 : 0 ≤ ((ji47) : Int) := of_decide_eq_true (by first|(with_reducible assumption)|assumption)
                             have q788 : (ji47) < (l1.length : Int) := of_decide_eq_true (by first|(with_reducible assumption)|assumption)
                             obtain ⟨ad788, e788, hx788_0⟩ := Kd.at_int HR1.out (ji47) p788 q788
                             obtain rfl : ad781 = ad788 := (by injection e788)
                             replace hx788_0 := (HB.out.cell (World.block_lt_of_cell? w _ hx788_0)).trans hx788_0
                             replace p788 := eq_true p788
                             replace q788 := eq_true q788
                             go_wp2
                             repeat (go_quiet (fail); try go_wp2)
                             go_ret
                             exact ⟨by first | rfl | (simp [errW_none, errW_some] <;> rfl) | (simp only [← hji34, ← hji44, ← hji47]; first | rfl | (simp [errW_none, errW_some] <;> rfl)) | (simp [*, errW_none, errW_some] <;> rfl), bS HB00.out (by repeat first|exact HB.out|apply bA|apply bN|apply bD)⟩
                            ·rw [if_neg c50] at H
                             have c50b0 : ((rd l1 (ji44)) == (rd l1 (ji47))) = false := beq_eq_false_iff_ne.mpr c50
                             have c50b1 : ((rd l1 (ji44)) != (rd l1 (ji47))) = true := bne_iff_ne.mpr c50
                             have H' := Az.mk H
                             clear H
                             have p786 : 0 ≤ (x95_4 : Int) := of_decide_eq_true (by first|(with_reducible assumption)|assumption)
                             have q786 : x95_4 < (y782.length : Int) := of_decide_eq_true (by first|(with_reducible assumption)|assumption)
                             obtain ⟨ad786, e786, hx786_0⟩ := Kd.at_int HR785.out x95_4 p786 q786
                             obtain rfl : ad780 = ad786 := (by injection e786)
                             skip
                             replace p786 := eq_true p786
                             replace q786 := eq_true q786
                             have p787 : 0 ≤ ((ji44) : Int) := of_decide_eq_true (by first|(with_reducible assumption)|assumption)
                             have q787 : (ji44) < (l1.length : Int) := of_decide_eq_true (by first|(with_reducible assumption)|assumption)
                             obtain ⟨ad787, e787, hx787_0⟩ := Kd.at_int HR1.out (ji44) p787 q787
                             obtain rfl : ad781 = ad787 := (by injection e787)
                             replace hx787_0 := (HB.out.cell (World.block_lt_of_cell? w _ hx787_0)).trans hx787_0
                             replace p787 := eq_true p787
                             replace q787 := eq_true q787
                             have p788 : 0 ≤ ((ji47) : Int) := of_decide_eq_true (by first|(with_reducible assumption)|assumption)
                             have q788 : (ji47) < (l1.length : Int) := of_decide_eq_true (by first|(with_reducible assumption)|assumption)
                             obtain ⟨ad788, e788, hx788_0⟩ := Kd.at_int HR1.out (ji47) p788 q788
                             obtain rfl : ad781 = ad788 := (by injection e788)
                             replace hx788_0 := (HB.out.cell (World.block_lt_of_cell? w _ hx788_0)).trans hx788_0
                             replace p788 := eq_true p788
                             replace q788 := eq_true q788
                             go_wp2
                             repeat (go_quiet (fail); try go_wp2)
                             go_roundg k4
                             case measure => have := HJ9.out; have := HK2.out; have := HK3.out; have := HK4.out; omega
                             case rel => exact ⟨(wrap64 (x95_4 + 1)), (by first | rfl | (simp; done) | (simp [*]; done)), H', ⟨by have := HJ9.out; have := HK2.out; have := HK3.out; have := HK4.out; omega⟩, ⟨by (with_reducible repeat first|apply Kd.Ra|apply Kd.Rn|apply Kd.Rw); exact HO_12.out⟩, ⟨by (with_reducible repeat first|apply Kd.Ra|apply Kd.Rn|apply Kd.Rw); exact HO_78.out⟩, ⟨by repeat (first | (with_reducible exact HR785.out) | (with_reducible refine Kd.C_alloc ?_ _) | (with_reducible refine Kd.C_drewN ?_ _) | (with_reducible refine Kd.C_drew ?_) | exact HR785.out)⟩, ⟨by repeat (first | (with_reducible first|exact HB.out|apply bA|apply bN|apply bD) | exact HB.out)⟩⟩
                           ·rw [if_neg c49] at H
                            exact absurd H (by simp)
                          ·rw [if_neg c48] at H
                           exact absurd H (by simp)
                         ·rw [if_neg c46] at H
                          exact absurd H (by simp)
                        ·rw [if_neg c45] at H
                         exact absurd H (by simp)
                       ·rw [if_neg c43] at H
                        exact absurd H (by simp)
                      ·rw [if_neg c42] at H
                       exact absurd H (by simp)
                     ·rw [if_neg c41] at H
                      have c41b0 : decide (x95_4 < (y782.length : Int)) = false := decide_eq_false c41
                      clear c41
                      have H' := Az.mk H
                      clear H
                      go_wp2
                      repeat (go_quiet (fail); try go_wp2)
                      go_roundg k4
                      case measure => have := HJ9.out; have := HK2.out; have := HK3.out; have := HK4.out; omega
                      case rel => exact ⟨(wrap64 (x80_3 + 1)), (by first | rfl | (simp; done) | (simp [*]; done)), H', ⟨by have := HJ9.out; have := HK2.out; have := HK3.out; have := HK4.out; omega⟩, ⟨by (with_reducible repeat first|apply Kd.Ra|apply Kd.Rn|apply Kd.Rw); exact HO_12.out⟩, ⟨by (with_reducible repeat first|apply Kd.Ra|apply Kd.Rn|apply Kd.Rw); exact HO_78.out⟩, ⟨by repeat (first | (with_reducible first|exact HB.out|apply bA|apply bN|apply bD) | exact HB.out)⟩⟩
                  ·rw [if_neg c39] at H
                   exact absurd H (by simp)
                ·rw [if_neg c36] at H
                 exact absurd H (by simp)
               ·rw [if_neg c35] at H
                exact absurd H (by simp)
              ·rw [if_neg c33] at H
               exact absurd H (by simp)
             ·rw [if_neg c32] at H
              exact absurd H (by simp)
            ·rw [if_neg c31] at H
             have c31b0 : decide (x80_3 < (t776.length : Int)) = false := decide_eq_false c31
             clear c31
             have H' := Az.mk H
             clear H
             go_wp2
             repeat (go_quiet (fail); try go_wp2)
             go_roundg k3
             case measure => have := HJ9.out; have := HK2.out; have := HK3.out; omega
             case rel => exact ⟨(wrap64 (x69_2 + 1)), (by first | rfl | (simp; done) | (simp [*]; done)), H', ⟨by have := HJ9.out; have := HK2.out; have := HK3.out; omega⟩, ⟨by repeat (first | (with_reducible first|exact HB.out|apply bA|apply bN|apply bD) | exact HB.out)⟩⟩
         ·rw [if_neg c27] at H
          have c27b0 : decide (x69_2 < (t773.length : Int)) = false := decide_eq_false c27
          clear c27
          obtain rfl := Option.some.inj H
          go_wp2
          repeat (go_quiet (fail); try go_wp2)
          go_ret
          exact ⟨by first | rfl | (simp [errW_none, errW_some] <;> rfl) | (simp [*, errW_none, errW_some] <;> rfl), bS HB00.out (by repeat first|exact HB.out|apply bA|apply bN|apply bD)⟩
def laws_FnFit.Pure : Prop := ∀ (a0 : ByteArray) (l1 : List Int), a0.size ≤ 900000 → l1.length ≤ 600 → (∀ x ∈ l1, -1 ≤ x ∧ x ≤ 600) → ∃ k, laws_FnFit.f k a0 l1 = some true
end Go.Proofs.YtndjbnkmhpbnpaaGreatDoor.Pr
namespace Go.Proofs.YtndjbnkmhpbnpaaGreatDoor.Pr
open Go.RowKit Go.Proofs.YtndjbnkmhpbnpaaGreatDoorW.PrintWords Go.Proofs.YtndjbnkmhpbnpaaGreatDoorW.PrintLast Go.Proofs.YtndjbnkmhpbnpaaGreatDoorW.PrintMore
set_option linter.unusedVariables false
set_option linter.unusedSimpArgs false
theorem fit_high (a0 : ByteArray) (xs : List Int) (hx : ∀ x ∈ xs, -1 ≤ x ∧ x ≤ 600) (hl : xs.length ≤ 600) {T : Int} (hT : Ev (fun k => impl_MostAlive.f k a0) T) (hge : T ≤ cntOf xs) :
  ∀ (d i : Nat) (a : Int), i + d = xs.length → cntGo (xs.drop i) a = cntOf xs → Ev (fun k => laws_FnFit.l0 k a0 a xs (xs.length : Int) (i : Int)) true
 | 0, i, a, hi, hc => by
  rw [List.drop_of_length_le (by omega)] at hc
  refine Ev.step (fun k => laws_FnFit.l0.eq_2 (k := k) ..) ?_
  simp only [if_neg (show ¬ ((i : Int) < (xs.length : Int)) by omega)]
  refine Ev.bind hT ?_
  rw [decide_eq_true (show a ≥ T by rw [cntGo] at hc; omega)]
  exact Ev.now _
 | d + 1, i, a, hi, hc => by
  have hlt : i < xs.length := by omega
  have hb := hx _ (List.getElem_mem hlt)
  rw [List.drop_eq_getElem_cons hlt, cntGo] at hc
  have ih := fit_high a0 xs hx hl hT hge d (i + 1) (mx a (xs[i] + 1)) (by omega) hc
  refine Ev.step (fun k => laws_FnFit.l0.eq_2 (k := k) ..) ?_
  simp only [if_pos (show ((i : Int) < (xs.length : Int)) by omega), if_pos (show (0 : Int) ≤ (i : Int) by omega), rd_at hlt, wrap_small (n := xs[i] + 1) (by omega) (by omega), wrap_up (show i ≤ 1000000000 by omega)]
  exact ih
def Clash (xs A : List Int) (p : Nat) : Prop := p < A.length ∧ (rd xs (rd A (p : Int) - 1) < 0 ∨ ∃ q : Nat, q < p ∧ rd xs (rd A (p : Int) - 1) = rd xs (rd A (q : Int) - 1))
section
variable (a0 : ByteArray) (xs A : List Int) (hA : ∀ y ∈ A, 1 ≤ y ∧ y ≤ xs.length) (hA6 : A.length ≤ 600) (hx6 : xs.length ≤ 600)
include hA hA6 hx6
theorem fit_l3 (i : Nat) (hi : i < A.length) (M t : Int) : ∀ (d q : Nat), q + d = i →
  (Ev (fun k => laws_FnFit.l2 k a0 xs A M t A (A.length : Int) ((i + 1 : Nat) : Int)) true ∨ ∃ p : Nat, q ≤ p ∧ p < i ∧ rd xs (rd A (i : Int) - 1) = rd xs (rd A (p : Int) - 1)) →
  Ev (fun k => laws_FnFit.l3 k a0 xs A (rd A (i : Int)) M t A (A.length : Int) (i : Int) (A.take i) ((A.take i).length : Int) (q : Int)) true
 | 0, q, hq, h => by
  have hl : (A.take i).length = i := by rw [List.length_take]; omega
  refine Ev.step (fun k => laws_FnFit.l3.eq_2 (k := k) ..) ?_
  simp only [hl, if_neg (show ¬ ((q : Int) < (i : Int)) by omega), wrap_up (show i ≤ 1000000000 by omega)]
  rcases h with h | ⟨p, h1, h2, _⟩
  ·exact h
  ·omega
 | d + 1, q, hq, h => by
  have hl : (A.take i).length = i := by rw [List.length_take]; omega
  have hqi : q < i := by omega
  have hrt : rd (A.take i) (q : Int) = rd A (q : Int) := by
   rw [rd_at (show q < (A.take i).length by omega), rd_at (show q < A.length by omega), List.getElem_take]
  have b1 := hA _ (List.getElem_mem hi)
  have b2 := hA _ (List.getElem_mem (show q < A.length by omega))
  have e1 : rd A (i : Int) = A[i] := rd_at hi
  have e2 : rd A (q : Int) = A[q] := rd_at (by omega)
  refine Ev.step (fun k => laws_FnFit.l3.eq_2 (k := k) ..) ?_
  simp only [hl, hrt, if_pos (show ((q : Int) < (i : Int)) by omega), if_pos (show (0 : Int) ≤ (q : Int) by omega), wrap_small (n := rd A (i : Int) - 1) (by omega) (by omega), wrap_small (n := rd A (q : Int) - 1) (by omega) (by omega), if_pos (show 0 ≤ rd A (i : Int) - 1 by omega), if_pos (show 0 ≤ rd A (q : Int) - 1 by omega), if_pos (show rd A (i : Int) - 1 < (xs.length : Int) by omega), if_pos (show rd A (q : Int) - 1 < (xs.length : Int) by omega), wrap_up (show q ≤ 1000000000 by omega)]
  by_cases he : rd xs (rd A (i : Int) - 1) = rd xs (rd A (q : Int) - 1)
  ·simp only [if_pos he]
   exact Ev.now _
  ·simp only [if_neg he]
   have ih := fit_l3 i hi M t d (q + 1) (by omega) (h.imp id fun ⟨p, h1, h2, h3⟩ => ⟨p, by
    rcases Nat.lt_or_ge q p with h4 | h4
    ·omega
    ·obtain rfl : p = q := by omega
     exact absurd h3 he, h2, h3⟩)
   rw [hl] at ih
   exact ih
theorem fit_l2 (M : Int) (t : Nat) (ht : t ≤ 1000000) : ∀ (d i : Nat), i + d = A.length →
  (Ev (fun k => laws_FnFit.l1 k a0 xs M ((t + 1 : Nat) : Int)) true ∨ ∃ p : Nat, i ≤ p ∧ Clash xs A p) →
  Ev (fun k => laws_FnFit.l2 k a0 xs A M (t : Int) A (A.length : Int) (i : Int)) true
 | 0, i, hi, h => by
  refine Ev.step (fun k => laws_FnFit.l2.eq_2 (k := k) ..) ?_
  simp only [if_neg (show ¬ ((i : Int) < (A.length : Int)) by omega), wrap_up (show t ≤ 1000000000 by omega)]
  rcases h with h | ⟨p, h1, h2, _⟩
  ·exact h
  ·omega
 | d + 1, i, hi, h => by
  have hlt : i < A.length := by omega
  have b1 := hA _ (List.getElem_mem hlt)
  have e1 : rd A (i : Int) = A[i] := rd_at hlt
  refine Ev.step (fun k => laws_FnFit.l2.eq_2 (k := k) ..) ?_
  simp only [if_pos (show ((i : Int) < (A.length : Int)) by omega), if_pos (show (0 : Int) ≤ (i : Int) by omega), wrap_small (n := rd A (i : Int) - 1) (by omega) (by omega), if_pos (show 0 ≤ rd A (i : Int) - 1 by omega), if_pos (show rd A (i : Int) - 1 < (xs.length : Int) by omega), if_pos (show (i : Int) ≤ (A.length : Int) by omega), Int.toNat_natCast, Option.bind_some]
  by_cases hneg : rd xs (rd A (i : Int) - 1) < 0
  ·simp only [if_pos hneg]
   exact Ev.now _
  ·simp only [if_neg hneg]
   refine fit_l3 a0 xs A hA hA6 hx6 i hlt M (t : Int) i 0 (Nat.zero_add _) ?_
   rcases h with h | ⟨p, h1, h2⟩
   ·exact .inl (fit_l2 M t ht d (i + 1) (by omega) (.inl h))
   ·rcases Nat.lt_or_ge i p with h4 | h4
    ·exact .inl (fit_l2 M t ht d (i + 1) (by omega) (.inr ⟨p, h4, h2⟩))
    ·obtain rfl : p = i := by omega
     rcases h2.2 with h5 | ⟨q, h5, h6⟩
     ·exact absurd h5 hneg
     ·exact .inr ⟨q, Nat.zero_le _, h5, h6⟩
end
theorem fit_l1 (a0 : ByteArray) (hs : a0.size ≤ 1048576) (xs : List Int) (hx6 : xs.length ≤ 600) (hA : ∀ t : Int, ∀ y ∈ (aliveAtOf a0 t).1, 1 ≤ y ∧ y ≤ xs.length) (n : Nat) (hn : n ≤ 1000000) (e p : Nat) (he : e < n) (hc : Clash xs (aliveAtOf a0 (e : Int)).1 p) :
  ∀ (d t : Nat), t + d = e → Ev (fun k => laws_FnFit.l1 k a0 xs (n : Int) (t : Int)) true
 | 0, t, ht => by
  obtain rfl : t = e := by omega
  refine Ev.step (fun k => laws_FnFit.l1.eq_2 (k := k) ..) ?_
  simp only [if_pos (show ((t : Int) < (n : Int)) by omega)]
  refine Ev.bind (aliveAtI_ev a0 _ hs) ?_
  exact fit_l2 a0 xs _ (hA _) (aliveAtOf_len a0 _) hx6 (n : Int) t (by omega) _ 0 (Nat.zero_add _) (.inr ⟨p, Nat.zero_le _, hc⟩)
 | d + 1, t, ht => by
  have ih := fit_l1 a0 hs xs hx6 hA n hn e p he hc d (t + 1) (by omega)
  refine Ev.step (fun k => laws_FnFit.l1.eq_2 (k := k) ..) ?_
  simp only [if_pos (show ((t : Int) < (n : Int)) by omega)]
  refine Ev.bind (aliveAtI_ev a0 _ hs) ?_
  exact fit_l2 a0 xs _ (hA _) (aliveAtOf_len a0 _) hx6 (n : Int) t (by omega) _ 0 (Nat.zero_add _) (.inl ih)
theorem fit_pre {xs : List Int} {o : List S55} : ∀ (i : Nat), fitI xs o [] = true → fitI xs (o.take i) [] = true := by
 have gen : ∀ (r : List S55) (L : List Int) (i : Nat), fitI xs r L = true → fitI xs (r.take i) L = true := by
  intro r
  induction r with
  | nil => intro L i h; simpa using h
  | cons e r ih =>
   intro L i h
   cases i with
   | zero => rfl
   | succ i =>
    rw [fitI_cons, Bool.and_eq_true] at h
    rw [List.take_succ_cons, fitI_cons, Bool.and_eq_true]
    exact ⟨h.1, ih _ i h.2⟩
 exact fun i h => gen o [] i h
theorem fit_most {o : List S55} {m : Nat} {l : List Int} (g : Good o m l) {xs : List Int} (hm : xs.length = m) (h : fitI xs o [] = true) : Most o (cntOf xs) := by
 have h0 : 0 ≤ cntOf xs := (cntGo_le _ 0).1
 refine ⟨h0, fun i m' l' hi g' => ?_⟩
 have hf := fit_pre i h
 obtain ⟨f1, f2⟩ := g'.fits xs
 have hfit := f1.1 hf
 have hnd := (f2 hf).2
 have hmm : m' ≤ m := made_mono (i := i) (i' := o.length) hi g' (by rw [List.take_length]; exact g)
 have := sub_len (l'.map (cellAt xs)) (R0 (cntOf xs).toNat) hnd (fun x hx => by
  obtain ⟨n, hn, rfl⟩ := List.mem_map.1 hx
  have hr := g'.range n hn
  have hmem := cellAt_mem (c := xs) hr.1 (by omega)
  have h2 := cnt_lt _ hmem
  have h3 := (hfit (n - 1).toNat (by omega)).1
  rw [show (((n - 1).toNat : Nat) : Int) = n - 1 by omega] at h3
  exact R0_mem.2 ⟨h3, by omega⟩)
 rw [R0_length, List.length_map] at this
 omega
theorem not_fits {xs : List Int} {lv : List S31} {m : Nat} (h : ¬ Fits xs lv m) : ∃ i : Nat, i < m ∧ (rd xs i < 0 ∨ ∃ k : Nat, k < i ∧ rd xs i = rd xs k ∧ ((rd_T31 lv k).f2 < 0 ∨ (rd_T31 lv k).f2 > (rd_T31 lv i).f0)) := by
 apply Classical.byContradiction
 intro hc
 apply h
 intro i hi
 refine ⟨?_, fun k hk hh => ?_⟩
 ·apply Classical.byContradiction
  intro h1
  exact hc ⟨i, hi, .inl (by omega)⟩
 ·exact hc ⟨i, hi, .inr ⟨k, hk, hh⟩⟩
theorem at_of_mem {A : List Int} {y : Int} (h : y ∈ A) : ∃ p : Nat, p < A.length ∧ rd A (p : Int) = y := by
 obtain ⟨p, hp, e⟩ := List.getElem_of_mem h
 exact ⟨p, hp, by rw [rd_at hp]; exact e⟩
theorem clash_of {a0 : ByteArray} (hok : (toldOf a0).2.2 = true) {m : Nat} {l : List Int} (g : Good (toldOf a0).1 m l) {xs : List Int} (h : ¬ Fits xs (lvs (toldOf a0).1) m) :
  ∃ e p : Nat, e < (toldOf a0).1.length ∧ Clash xs (aliveAtOf a0 (e : Int)).1 p := by
 obtain ⟨i, hi, h⟩ := not_fits h
 have hlv := g.lvs_length
 have hL : (lvs (toldOf a0).1)[i]? = some ((lvs (toldOf a0).1)[i]'(by omega)) := List.getElem?_eq_getElem (by omega)
 have S := g.spec i _ hL
 have K := g.life i _ hL
 have eL := rd_get hL
 generalize (lvs (toldOf a0).1)[i]'(by omega) = L at *
 obtain ⟨b, hb, e', hb1, _, _⟩ := S.born
 have hbl : b < (toldOf a0).1.length := (List.getElem?_eq_some_iff.1 hb1).1
 have hA : (aliveAtOf a0 (b : Int)).1 = alv (lvs (toldOf a0).1) 0 (b : Int) := by
  unfold aliveAtOf
  rw [if_pos ⟨hok, by omega, by omega⟩]
 have hmem : ((i + 1 : Nat) : Int) ∈ alv (lvs (toldOf a0).1) 0 (b : Int) := by
  rw [mem_alv]
  refine ⟨i, L, hL, by omega, by omega, ?_⟩
  have := K.ud
  have := K.used
  by_cases h2 : L.f2 < 0
  ·exact .inl h2
  ·exact .inr (by omega)
 obtain ⟨p, hp, ep⟩ := at_of_mem hmem
 refine ⟨b, p, hbl, ?_⟩
 rw [hA]
 refine ⟨hp, ?_⟩
 rw [ep, show (((i + 1 : Nat) : Int)) - 1 = (i : Int) by omega]
 rcases h with h | ⟨k, hk, h1, h2⟩
 ·exact .inl h
 ·have hL2 : (lvs (toldOf a0).1)[k]? = some ((lvs (toldOf a0).1)[k]'(by omega)) := List.getElem?_eq_getElem (by omega)
  have S2 := g.spec k _ hL2
  have eL2 := rd_get hL2
  generalize (lvs (toldOf a0).1)[k]'(by omega) = L2 at *
  rw [eL2, eL] at h2
  have hbo := born_lt g S2 S hk
  have hmem2 : ((k + 1 : Nat) : Int) ∈ alv (lvs (toldOf a0).1) 0 (b : Int) := by
   rw [mem_alv]
   exact ⟨k, L2, hL2, by omega, by omega, by rcases h2 with h2 | h2; exact .inl h2; exact .inr (by omega)⟩
  obtain ⟨q, hq, eq⟩ := at_of_mem hmem2
  refine .inr ⟨q, ?_, by rw [eq, show (((k + 1 : Nat) : Int)) - 1 = (k : Int) by omega]; exact h1⟩
  apply Classical.byContradiction
  intro hc
  have hso := alv_sorted (b : Int) (lvs (toldOf a0).1) 0
  rcases Nat.lt_or_ge p q with h3 | h3
  ·have := List.pairwise_iff_getElem.1 hso p q hp hq h3
   rw [rd_at hp] at ep
   rw [rd_at hq] at eq
   omega
  ·obtain rfl : p = q := by omega
   omega
theorem fnFit_plain : laws_FnFit.Pure := by
 intro a0 xs ha hx6 hx
 have hs : a0.size ≤ 1048576 := by omega
 obtain ⟨m, l, g, hm, hl⟩ := told_good a0
 have hmade := g.made
 have hlv := g.lvs_length
 have hfI : impl_CellsFit.f a0 xs = some (fitOf a0 xs) := by
  unfold impl_CellsFit.f
  rw [if_pos ⟨hs, fun x h => by have := hx x h; omega, by omega, hl, fun e he => by rw [hm]; exact g.values e he⟩]
 have hfS : spec_CellsFit.f a0 xs = some (fitOf a0 xs) := by
  unfold spec_CellsFit.f
  rw [if_pos hs, fit_same]
 refine Ev.rounds ?_
 unfold laws_FnFit.f
 simp only [if_neg (show ¬ ((a0.size : Int) > 1048576) by omega), hfI, hfS, Option.bind_some, bne_self_eq_false, Bool.false_eq_true, if_false, ofLives_told a0 hs]
 have hneg : ∀ x : Bool, x = true → fitOf a0 xs = false → Ev (fun k => laws_FnFit.j0 k a0 xs (fitOf a0 xs) x) true := by
  intro x hx hf
  refine Ev.step (fun k => laws_FnFit.j0.eq_2 (k := k) ..) ?_
  simp only [hx, if_true, hf, Bool.not_false]
  exact Ev.now _
 cases hok : (toldOf a0).2.2
 ·simp only [Bool.false_eq_true, if_false]
  refine hneg _ rfl ?_
  unfold fitOf
  rw [if_neg (fun h => by rw [hok] at h; exact absurd h.1 (by decide))]
 ·simp only [if_true]
  by_cases hlen : xs.length = m
  ·have hb : (((lvs (toldOf a0).1).length : Int) != (xs.length : Int)) = false := by rw [bne_eq_false_iff_eq]; omega
   rw [hb]
   have hfit : fitOf a0 xs = fitI xs (toldOf a0).1 [] := by
    unfold fitOf
    rw [if_pos ⟨hok, by omega⟩]
   refine Ev.step (fun k => laws_FnFit.j0.eq_2 (k := k) ..) ?_
   cases hf : fitOf a0 xs
   ·simp only [Bool.false_eq_true, if_false]
    obtain ⟨W, hW1, hW2⟩ := elWords_ev a0 hs
    rw [told_words hok g] at hW2
    refine Ev.bind hW1 ?_
    have hnf : ¬ Fits xs (lvs (toldOf a0).1) m := fun h => by
     have := (g.fits xs).1.2 h
     rw [← hfit, hf] at this
     exact absurd this (by decide)
    obtain ⟨e, p, he, hc⟩ := clash_of hok g hnf
    have hWl : W.length = (toldOf a0).1.length := by
     have := congrArg List.length hW2
     rw [List.length_map, if_neg (fun h => by rw [h] at he; simp at he), List.length_map] at this
     exact this
    rw [hWl]
    refine fit_l1 a0 hs xs hx6 (fun t y hy => ?_) _ (by omega) e p he hc e 0 (Nat.zero_add _)
    unfold aliveAtOf at hy
    split at hy
    ·obtain ⟨j, L, h1, h2, _⟩ := (mem_alv t _ 0 y).1 hy
     have := (List.getElem?_eq_some_iff.1 h1).1
     omega
    ·simp at hy
   ·simp only [Bool.false_eq_true, if_false, if_true]
    have hmost := fit_most g hlen (by rw [← hfit]; exact hf)
    have h1 := g.first_most _ hmost
    rw [g.first_is] at h1
    refine fit_high a0 xs hx hx6 (mostI_ev a0 hs) ?_ xs.length 0 0 (Nat.zero_add _) rfl
    unfold mostOf
    rw [if_pos hok]
    exact h1
  ·have hb : (((lvs (toldOf a0).1).length : Int) != (xs.length : Int)) = true := by rw [bne_iff_ne]; omega
   refine hneg _ hb ?_
   unfold fitOf
   rw [if_neg (fun h => hlen (by have := h.2; omega))]
end Go.Proofs.YtndjbnkmhpbnpaaGreatDoor.Pr
namespace Go.Proofs.YtndjbnkmhpbnpaaGreatDoor.Pure
open Go.Proofs.YtndjbnkmhpbnpaaGreatDoor.Pr
theorem FnFit : laws_FnFit.Pure := Pr.fnFit_plain
end Go.Proofs.YtndjbnkmhpbnpaaGreatDoor.Pure
