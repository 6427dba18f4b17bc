/- MFnLivesd: texts of this proof, joined. -/
import Derived.Test.YtndjbnkmhpbnpaaGreatDoorCa
import Derived.Test.YtndjbnkmhpbnpaaGreatDoorCb
import Derived.Test.YtndjbnkmhpbnpaaGreatDoorCc
import Derived.Test.YtndjbnkmhpbnpaaGreatDoorCd
import Derived.Test.YtndjbnkmhpbnpaaGreatDoorCe
import Derived.Test.YtndjbnkmhpbnpaaGreatDoorCf
import Derived.Test.YtndjbnkmhpbnpaaGreatDoorCg
import Derived.Test.YtndjbnkmhpbnpaaGreatDoorCh
import Derived.Test.YtndjbnkmhpbnpaaGreatDoorCi
import Derived.Test.YtndjbnkmhpbnpaaGreatDoorCj
import Derived.Test.YtndjbnkmhpbnpaaGreatDoorCk
import Derived.Test.YtndjbnkmhpbnpaaGreatDoorCl
import Derived.Test.YtndjbnkmhpbnpaaGreatDoorMFnLivesa
import Derived.Test.YtndjbnkmhpbnpaaGreatDoorMFnLivesb
import Derived.Test.YtndjbnkmhpbnpaaGreatDoorMFnLivesc
import Derived.Laws.StructEq
import Derived.Maps.RangeWalk
import Derived.Deep.RegionWith
import Derived.RegionTactic
import Derived.Handy
import Derived.Outline
import Derived.Deep.DeepCutAuto
import Derived.Deep.CutBlock
import Derived.Deep.QuietTactic
import Derived.BigQuiet
import Derived.BigCall
import Derived.BigRegion
namespace Go.Proofs.YtndjbnkmhpbnpaaGreatDoor.Pr
open Go.RowKit Go.Proofs.YtndjbnkmhpbnpaaGreatDoorW.PrintWords Go.Proofs.YtndjbnkmhpbnpaaGreatDoorW.PrintLast Go.Proofs.YtndjbnkmhpbnpaaGreatDoorW.PrintMore
attribute [local go_sem] max2_int min2_int max_two min_two max_three min_three max_four min_four   -- for this text's walks alone
set_option linter.unusedVariables false
set_option linter.unusedSimpArgs false
mutual
def laws_FnLives.j0 : Nat → ByteArray → ByteArray → Bool → Option (Bool)
 | 0, _, _, _ => none
 | k + 1, x0, x1, x26 => if x26 = true then (some true) else ((impl_LivesOf.f x0).bind fun bt643 => ((spec_LivesOf.f k x0).bind fun bt647 => ((impl_LeftOver.f k x0).bind fun bt651 => ((spec_LeftOver.f k x0).bind fun bt655 => (if (bt643.2 != bt647.2) = true then (laws_FnLives.j1 k x0 bt643.1 bt643.2 bt647.1 bt647.2 bt651.1 bt651.2 bt655.1 x1 true) else ((laws_elSame.f k bt651.1 bt655.1).bind fun t659 => (if t659 = true then (if (bt651.2 != bt643.2) = true then (laws_FnLives.j1 k x0 bt643.1 bt643.2 bt647.1 bt647.2 bt651.1 bt651.2 bt655.1 x1 true) else ((impl_EventsValid.f x0).bind fun t660 => (if (bt643.2 != t660) = true then (laws_FnLives.j1 k x0 bt643.1 bt643.2 bt647.1 bt647.2 bt651.1 bt651.2 bt655.1 x1 true) else (if (bt643.1.length : Int) = (bt647.1.length : Int) then ((impl_EventsValid.f x1).bind fun t661 => ((spec_EventsValid.f k x1).bind fun t662 => (if (t661 != t662) = true then (laws_FnLives.j1 k x0 bt643.1 bt643.2 bt647.1 bt647.2 bt651.1 bt651.2 bt655.1 x1 true) else (laws_FnLives.j1 k x0 bt643.1 bt643.2 bt647.1 bt647.2 bt651.1 bt651.2 bt655.1 x1 (!bt643.2))))) else (laws_FnLives.j1 k x0 bt643.1 bt643.2 bt647.1 bt647.2 bt651.1 bt651.2 bt655.1 x1 true))))) else (laws_FnLives.j1 k x0 bt643.1 bt643.2 bt647.1 bt647.2 bt651.1 bt651.2 bt655.1 x1 true))))))))
def laws_FnLives.j1 : Nat → ByteArray → List (S31) → Bool → List (S31) → Bool → List Int → Bool → List Int → ByteArray → Bool → Option (Bool)
 | 0, _, _, _, _, _, _, _, _, _, _ => none
 | k + 1, x5, x6, x7, x8, x9, x10, x11, x12, x14, x88 => if x88 = true then (if (x7 == x9) = true then ((laws_elSame.f k x10 x12).bind fun t663 => (if t663 = true then (if (x11 == x7) = true then ((impl_EventsValid.f x5).bind fun t664 => (if (x7 == t664) = true then (if (x6.length : Int) = (x8.length : Int) then ((impl_EventsValid.f x14).bind fun t665 => ((spec_EventsValid.f k x14).bind fun t666 => (some (t665 == t666)))) else (some false)) else (some false))) else (some false)) else (some false))) else (some false)) else ((laws_elWords.f k x5).bind fun t667 => (laws_FnLives.l0 k x6 x8 x10 0 t667 x6 (x6.length : Int) 0))
def laws_FnLives.l0 : Nat → List (S31) → List (S31) → List Int → Int → List ByteArray → List (S31) → Int → Int → Option (Bool)
 | 0, _, _, _, _, _, _, _, _ => none
 | k + 1, x6, x8, x10, x15, x16, x124, x125, x126 => if x126 < x125 then (if 0 ≤ x126 then (if x126 < (x124.length : Int) then (if x126 < (x8.length : Int) then (if (!(((rd_T31 x124 x126).f0) == ((rd_T31 x8 x126).f0)) || (!(((rd_T31 x124 x126).f1) == ((rd_T31 x8 x126).f1)) || (!(((rd_T31 x124 x126).f2) == ((rd_T31 x8 x126).f2))))) = true then (laws_FnLives.j3 k x6 x8 x10 x15 x16 x124 x125 x126 true ((rd_T31 x124 x126).f0) ((rd_T31 x124 x126).f1) ((rd_T31 x124 x126).f2)) else (if 0 ≤ ((rd_T31 x124 x126).f0) then (if ((rd_T31 x124 x126).f0) < (x16.length : Int) then (if 0 ≤ 1 then (if 1 ≤ ((rdOf ByteArray.empty x16 ((rd_T31 x124 x126).f0)).size : Int) then (if ((rdOf ByteArray.empty x16 ((rd_T31 x124 x126).f0)).extract 0 1).toList = ([43] : List UInt8) then (if ((rd_T31 x124 x126).f1) < ((rd_T31 x124 x126).f0) then (laws_FnLives.j3 k x6 x8 x10 x15 x16 x124 x125 x126 true ((rd_T31 x124 x126).f0) ((rd_T31 x124 x126).f1) ((rd_T31 x124 x126).f2)) else (if x126 > 0 then (if 0 ≤ (wrap64 (x126 - 1)) then (if (wrap64 (x126 - 1)) < (x6.length : Int) then (laws_FnLives.j3 k x6 x8 x10 x15 x16 x124 x125 x126 (decide (((rd_T31 x6 (wrap64 (x126 - 1))).f0) ≥ ((rd_T31 x124 x126).f0))) ((rd_T31 x124 x126).f0) ((rd_T31 x124 x126).f1) ((rd_T31 x124 x126).f2)) else (none)) else (none)) else (laws_FnLives.j3 k x6 x8 x10 x15 x16 x124 x125 x126 false ((rd_T31 x124 x126).f0) ((rd_T31 x124 x126).f1) ((rd_T31 x124 x126).f2)))) else (laws_FnLives.j3 k x6 x8 x10 x15 x16 x124 x125 x126 true ((rd_T31 x124 x126).f0) ((rd_T31 x124 x126).f1) ((rd_T31 x124 x126).f2))) else (none)) else (none)) else (none)) else (none))) else (none)) else (none)) else (none)) else (some ((wrap64 (x15 + (x10.length : Int))) == (x6.length : Int)))
def laws_FnLives.j3 : Nat → List (S31) → List (S31) → List Int → Int → List ByteArray → List (S31) → Int → Int → Bool → Int → Int → Int → Option (Bool)
 | 0, _, _, _, _, _, _, _, _, _, _, _, _ => none
 | k + 1, x6, x8, x10, x15, x16, x124, x125, x126, x167, x672000, x672001, x672002 => if x167 = true then (some false) else (if x672002 ≥ 0 then (if x672002 ≤ x672001 then (some false) else (if 0 ≤ x672002 then (if x672002 < (x16.length : Int) then (if 0 ≤ 1 then (if 1 ≤ ((rdOf ByteArray.empty x16 x672002).size : Int) then (if ((rdOf ByteArray.empty x16 x672002).extract 0 1).toList = ([45] : List UInt8) then (if 0 ≤ x672000 then (if x672000 < (x16.length : Int) then (if 1 ≤ ((rdOf ByteArray.empty x16 x672000).size : Int) then (if ((rdOf ByteArray.empty x16 x672002).extract 1 (rdOf ByteArray.empty x16 x672002).size).toList = ((rdOf ByteArray.empty x16 x672000).extract 1 (rdOf ByteArray.empty x16 x672000).size).toList then (laws_FnLives.l0 k x6 x8 x10 (wrap64 (x15 + 1)) x16 x124 x125 (wrap64 (x126 + 1))) else (some false)) else (none)) else (none)) else (none)) else (some false)) else (none)) else (none)) else (none)) else (none))) else (laws_FnLives.l0 k x6 x8 x10 x15 x16 x124 x125 (wrap64 (x126 + 1))))
end
def laws_FnLives.f (k : Nat) (a0 : ByteArray) (a1 : ByteArray) : Option (Bool) := if (a0.size : Int) > 1048576 then (laws_FnLives.j0 k a0 a1 true) else (laws_FnLives.j0 k a0 a1 (decide ((a1.size : Int) > 1048576)))
theorem laws_FnLives.mono_l : ∀ k, (∀ y0 y1 y2, LeO (laws_FnLives.j0 k y0 y1 y2) (laws_FnLives.j0 (k + 1) y0 y1 y2)) ∧ (∀ y0 y1 y2 y3 y4 y5 y6 y7 y8 y9, LeO (laws_FnLives.j1 k y0 y1 y2 y3 y4 y5 y6 y7 y8 y9) (laws_FnLives.j1 (k + 1) y0 y1 y2 y3 y4 y5 y6 y7 y8 y9)) ∧ (∀ y0 y1 y2 y3 y4 y5 y6 y7, LeO (laws_FnLives.l0 k y0 y1 y2 y3 y4 y5 y6 y7) (laws_FnLives.l0 (k + 1) y0 y1 y2 y3 y4 y5 y6 y7)) ∧ (∀ y0 y1 y2 y3 y4 y5 y6 y7 y8 y9 y10 y11, LeO (laws_FnLives.j3 k y0 y1 y2 y3 y4 y5 y6 y7 y8 y9 y10 y11) (laws_FnLives.j3 (k + 1) y0 y1 y2 y3 y4 y5 y6 y7 y8 y9 y10 y11))
 | 0 => ⟨fun _ _ _ r h => by simp [laws_FnLives.j0] at h, fun _ _ _ _ _ _ _ _ _ _ r h => by simp [laws_FnLives.j1] at h, fun _ _ _ _ _ _ _ _ r h => by simp [laws_FnLives.l0] at h, fun _ _ _ _ _ _ _ _ _ _ _ _ r h => by simp [laws_FnLives.j3] at h⟩
 | k + 1 => by
  obtain ⟨ih0, ih1, ih2, ih3⟩ := laws_FnLives.mono_l k
  refine ⟨?_, ?_, ?_, ?_⟩
  ·intro y0 y1 y2
   unfold laws_FnLives.j0
   repeat' first
   | (with_reducible exact ih0 _ _ _)
   | (with_reducible exact ih1 _ _ _ _ _ _ _ _ _ _)
   | (with_reducible exact ih2 _ _ _ _ _ _ _ _)
   | (with_reducible exact ih3 _ _ _ _ _ _ _ _ _ _ _ _)
   | (with_reducible exact impl_LeftOver.mono _ _)
   | (with_reducible exact laws_elSame.mono _ _ _)
   | (with_reducible exact laws_elWords.mono _ _)
   | (with_reducible exact spec_EventsValid.mono _ _)
   | (with_reducible exact spec_LeftOver.mono _ _)
   | (with_reducible exact spec_LivesOf.mono _ _)
   | (with_reducible exact LeO.refl _)
   | (with_reducible exact LeO.none _)
   | (with_reducible refine LeO.ite ?_ ?_)
   | (with_reducible refine LeO.bind ?_ (fun _ => ?_))
   | exact ih0 _ _ _
   | exact ih1 _ _ _ _ _ _ _ _ _ _
   | exact ih2 _ _ _ _ _ _ _ _
   | exact ih3 _ _ _ _ _ _ _ _ _ _ _ _
   | exact impl_LeftOver.mono _ _
   | exact laws_elSame.mono _ _ _
   | exact laws_elWords.mono _ _
   | exact spec_EventsValid.mono _ _
   | exact spec_LeftOver.mono _ _
   | exact spec_LivesOf.mono _ _
   | exact LeO.none _
   | refine LeO.ite ?_ ?_
   | refine LeO.bind ?_ (fun _ => ?_)
  ·intro y0 y1 y2 y3 y4 y5 y6 y7 y8 y9
   unfold laws_FnLives.j1
   repeat' first
   | (with_reducible exact ih0 _ _ _)
   | (with_reducible exact ih1 _ _ _ _ _ _ _ _ _ _)
   | (with_reducible exact ih2 _ _ _ _ _ _ _ _)
   | (with_reducible exact ih3 _ _ _ _ _ _ _ _ _ _ _ _)
   | (with_reducible exact impl_LeftOver.mono _ _)
   | (with_reducible exact laws_elSame.mono _ _ _)
   | (with_reducible exact laws_elWords.mono _ _)
   | (with_reducible exact spec_EventsValid.mono _ _)
   | (with_reducible exact spec_LeftOver.mono _ _)
   | (with_reducible exact spec_LivesOf.mono _ _)
   | (with_reducible exact LeO.refl _)
   | (with_reducible exact LeO.none _)
   | (with_reducible refine LeO.ite ?_ ?_)
   | (with_reducible refine LeO.bind ?_ (fun _ => ?_))
   | exact ih0 _ _ _
   | exact ih1 _ _ _ _ _ _ _ _ _ _
   | exact ih2 _ _ _ _ _ _ _ _
   | exact ih3 _ _ _ _ _ _ _ _ _ _ _ _
   | exact impl_LeftOver.mono _ _
   | exact laws_elSame.mono _ _ _
   | exact laws_elWords.mono _ _
   | exact spec_EventsValid.mono _ _
   | exact spec_LeftOver.mono _ _
   | exact spec_LivesOf.mono _ _
   | exact LeO.none _
   | refine LeO.ite ?_ ?_
   | refine LeO.bind ?_ (fun _ => ?_)
  ·intro y0 y1 y2 y3 y4 y5 y6 y7
   unfold laws_FnLives.l0
   repeat' first
   | (with_reducible exact ih0 _ _ _)
   | (with_reducible exact ih1 _ _ _ _ _ _ _ _ _ _)
   | (with_reducible exact ih2 _ _ _ _ _ _ _ _)
   | (with_reducible exact ih3 _ _ _ _ _ _ _ _ _ _ _ _)
   | (with_reducible exact impl_LeftOver.mono _ _)
   | (with_reducible exact laws_elSame.mono _ _ _)
   | (with_reducible exact laws_elWords.mono _ _)
   | (with_reducible exact spec_EventsValid.mono _ _)
   | (with_reducible exact spec_LeftOver.mono _ _)
   | (with_reducible exact spec_LivesOf.mono _ _)
   | (with_reducible exact LeO.refl _)
   | (with_reducible exact LeO.none _)
   | (with_reducible refine LeO.ite ?_ ?_)
   | (with_reducible refine LeO.bind ?_ (fun _ => ?_))
   | exact ih0 _ _ _
   | exact ih1 _ _ _ _ _ _ _ _ _ _
   | exact ih2 _ _ _ _ _ _ _ _
   | exact ih3 _ _ _ _ _ _ _ _ _ _ _ _
   | exact impl_LeftOver.mono _ _
   | exact laws_elSame.mono _ _ _
   | exact laws_elWords.mono _ _
   | exact spec_EventsValid.mono _ _
   | exact spec_LeftOver.mono _ _
   | exact spec_LivesOf.mono _ _
   | exact LeO.none _
   | refine LeO.ite ?_ ?_
   | refine LeO.bind ?_ (fun _ => ?_)
  ·intro y0 y1 y2 y3 y4 y5 y6 y7 y8 y9 y10 y11
   unfold laws_FnLives.j3
   repeat' first
   | (with_reducible exact ih0 _ _ _)
   | (with_reducible exact ih1 _ _ _ _ _ _ _ _ _ _)
   | (with_reducible exact ih2 _ _ _ _ _ _ _ _)
   | (with_reducible exact ih3 _ _ _ _ _ _ _ _ _ _ _ _)
   | (with_reducible exact impl_LeftOver.mono _ _)
   | (with_reducible exact laws_elSame.mono _ _ _)
   | (with_reducible exact laws_elWords.mono _ _)
   | (with_reducible exact spec_EventsValid.mono _ _)
   | (with_reducible exact spec_LeftOver.mono _ _)
   | (with_reducible exact spec_LivesOf.mono _ _)
   | (with_reducible exact LeO.refl _)
   | (with_reducible exact LeO.none _)
   | (with_reducible refine LeO.ite ?_ ?_)
   | (with_reducible refine LeO.bind ?_ (fun _ => ?_))
   | exact ih0 _ _ _
   | exact ih1 _ _ _ _ _ _ _ _ _ _
   | exact ih2 _ _ _ _ _ _ _ _
   | exact ih3 _ _ _ _ _ _ _ _ _ _ _ _
   | exact impl_LeftOver.mono _ _
   | exact laws_elSame.mono _ _ _
   | exact laws_elWords.mono _ _
   | exact spec_EventsValid.mono _ _
   | exact spec_LeftOver.mono _ _
   | exact spec_LivesOf.mono _ _
   | exact LeO.none _
   | refine LeO.ite ?_ ?_
   | refine LeO.bind ?_ (fun _ => ?_)
theorem laws_FnLives.mono : ∀ a0 a1 k, LeO (laws_FnLives.f k a0 a1) (laws_FnLives.f (k + 1) a0 a1) := by
 intro a0 a1 k
 obtain ⟨ih0, ih1, ih2, ih3⟩ := laws_FnLives.mono_l k
 unfold laws_FnLives.f
 repeat' first
   | (with_reducible exact ih0 _ _ _)
   | (with_reducible exact ih1 _ _ _ _ _ _ _ _ _ _)
   | (with_reducible exact ih2 _ _ _ _ _ _ _ _)
   | (with_reducible exact ih3 _ _ _ _ _ _ _ _ _ _ _ _)
   | (with_reducible exact impl_LeftOver.mono _ _)
   | (with_reducible exact laws_elSame.mono _ _ _)
   | (with_reducible exact laws_elWords.mono _ _)
   | (with_reducible exact spec_EventsValid.mono _ _)
   | (with_reducible exact spec_LeftOver.mono _ _)
   | (with_reducible exact spec_LivesOf.mono _ _)
   | (with_reducible exact LeO.refl _)
   | (with_reducible exact LeO.none _)
   | (with_reducible refine LeO.ite ?_ ?_)
   | (with_reducible refine LeO.bind ?_ (fun _ => ?_))
   | exact ih0 _ _ _
   | exact ih1 _ _ _ _ _ _ _ _ _ _
   | exact ih2 _ _ _ _ _ _ _ _
   | exact ih3 _ _ _ _ _ _ _ _ _ _ _ _
   | exact impl_LeftOver.mono _ _
   | exact laws_elSame.mono _ _ _
   | exact laws_elWords.mono _ _
   | exact spec_EventsValid.mono _ _
   | exact spec_LeftOver.mono _ _
   | exact spec_LivesOf.mono _ _
   | exact LeO.none _
   | refine LeO.ite ?_ ?_
   | refine LeO.bind ?_ (fun _ => ?_)
theorem neq_T31 (w : World) (a b c a' b' c' : Int) : (Go.binOp .neq 31 (.agg #[.int .i64 a, .int .i64 b, .int .i64 c]) (.agg #[.int .i64 a', .int .i64 b', .int .i64 c'])).run Tryz.prog w = .ok (.bool (!(a == a') || (!(b == b') || !(c == c')))) w := by
 have h : (Go.Op.equalIn 10000 31 (.agg #[.int .i64 a, .int .i64 b, .int .i64 c]) (.agg #[.int .i64 a', .int .i64 b', .int .i64 c'])).run Tryz.prog w = .ok ((a == a') && ((b == b') && (c == c'))) w := by
  refine eqA_of Tryz.underlying31 (by kernel_rfl) ?_
  refine eqf_cons rfl (a := .int .i64 a) (b := .int .i64 a') (by go_simp) (by go_simp) (by go_simp) ?_
  refine eqf_cons rfl (a := .int .i64 b) (b := .int .i64 b') (by go_simp) (by go_simp) (by go_simp) ?_
  exact eqf_last rfl (a := .int .i64 c) (b := .int .i64 c') (by go_simp) (by go_simp) (by go_simp)
 rw [run_neq_struct, h]
 simp [Result.andThen]
theorem eqGuard_T31 (w : World) (x y : Operand) (xs ys : Array Value) : (Go.eqGuard .neq 31 x y (.agg xs) (.agg ys)).run Tryz.prog w = .ok () w := run_eqGuard_agg w _ _ _ _ _ _ (by kernel_rfl)
theorem lift_o {α : Type} {f : Nat → Option α} (hm : ∀ k, LeO (f k) (f (k + 1))) : ∀ (n : Nat) {k : Nat} {r : α}, f k = some r → f (k + n) = some r
 | 0, k, r, h => h
 | n + 1, k, r, h => hm (k + n) r (lift_o hm n h)
set_option maxHeartbeats 8000000 in
set_option maxRecDepth 100000 in
theorem laws_FnLives.calls (w : World) (v : Value) (n : Nat) (xs : Nat → Int) (hv : BArg w v n xs) (hn : n ≤ 1048576) (v1 : Value) (n1 : Nat) (xs1 : Nat → Int) (hv1 : BArg w v1 n1 xs1) (hn1 : n1 ≤ 1048576) (hLd : LaidW w) (r : Bool) (P : ∀ a0 a1 : ByteArray, a0.size ≤ 900000 → a1.size ≤ 900000 → ∃ k, laws_FnLives.f k a0 a1 = some r) :
  Calls Tryz.prog 6 #[v, v1] w fun e w' => e = .returned (.bool r) ∧ Below w.heap.size w w' := by
 have hu31 := Tryz.underlying31
 have HLd := Az.mk hLd
 have HP := Az.mk P
 clear hLd P
 obtain ⟨A0, c0, rfl⟩ : ∃ A c, v = .slice A n c := by
  rcases hv with ⟨rfl, rfl⟩ | ⟨a, cap, rfl, _⟩
  ·exact ⟨none, 0, rfl⟩
  ·exact ⟨some a, cap, rfl⟩
 obtain ⟨A1, c1, rfl⟩ : ∃ A c, v1 = .slice A n1 c := by
  rcases hv1 with ⟨rfl, rfl⟩ | ⟨a, cap, rfl, _⟩
  ·exact ⟨none, 0, rfl⟩
  ·exact ⟨some a, cap, rfl⟩
 have HV := Az.mk hv
 have HV1 := Az.mk hv1
 have hnb : decide ((1048576 : Int) < (n : Int)) = false := by simp; omega
 have hnb1 : decide ((1048576 : Int) < (n1 : Int)) = false := by simp; omega
 clear hv hv1
 go_enter Tryz.func6, Tryz.ntmps6
 go_wp2_with fail
 refine (drawLives_any w _ n xs HV.out hn).mono ?_
 rintro e w1 ⟨a0, ha0, rfl, hb0⟩
 obtain ⟨k, h⟩ := HP.out a0 ⟨#[]⟩ ha0 (by decide)
 have HB := Az.mk hb0
 clear hb0 hnb hnb1
 unfold laws_FnLives.f at h
 rw [if_neg (by omega), decide_eq_false (by decide)] at h
 obtain ⟨kp, rfl⟩ : ∃ kp, k = kp + 1 := by
  cases k with
  | zero => exact absurd h (by simp [laws_FnLives.j0])
  | succ kp => exact ⟨kp, rfl⟩
 have H := h
 clear h
 simp only [laws_FnLives.j0, Bool.false_eq_true, if_false] at H
 replace H := Option.bind_eq_some_iff.mp H
 obtain ⟨⟨t643, t644⟩, A60, H⟩ := H
 have A6 := Az.mk A60
 clear A60
 replace H := Option.bind_eq_some_iff.mp H
 obtain ⟨⟨t647, t648⟩, A70, H⟩ := H
 have A7 := Az.mk A70
 clear A70
 replace H := Option.bind_eq_some_iff.mp H
 obtain ⟨⟨t651, t652⟩, A80, H⟩ := H
 have A8 := Az.mk A80
 clear A80
 replace H := Option.bind_eq_some_iff.mp H
 obtain ⟨⟨t655, t656⟩, A90, H⟩ := H
 have A9 := Az.mk A90
 clear A90
 clear H
 go_upto_region 9 with (first | (go_at_call 14; (with_reducible refine (impl_LivesOf.calls a0 t643 t644 _ (HLd.out.below (by repeat first|exact HB.out|apply bA|apply bN|apply bD)) A6.out).mono ?_); rintro e w11 ⟨v645, rfl, ho0, hb⟩; have n0_ := Az.mk (Kd.R_lower ho0 (bZ (by repeat first|exact HB.out|apply bA|apply bN|apply bD))); have n1_ := Az.mk (bS (by repeat first|exact HB.out|apply bA|apply bN|apply bD) hb); clear HB; have HO646 := n0_; have HB := n1_; clear n0_ n1_; (try clear hb); (try clear hb2); (try clear hk); (try clear hi); (try clear ho0)) | (go_at_call 35; (with_reducible refine (spec_LivesOf.calls kp a0 t647 t648 _ A7.out).mono ?_); rintro e w12 ⟨v649, rfl, ho0, hb⟩; have n0_ := Az.mk (Kd.R_elder' (by (with_reducible repeat first|apply Kd.Ra|apply Kd.Rn|apply Kd.Rw); exact HO646.out) (Kd.R_base ho0) hb); have n1_ := Az.mk (Kd.R_lower (Kd.R_new' ho0 (Kd.R_lt (by (with_reducible repeat first|apply Kd.Ra|apply Kd.Rn|apply Kd.Rw); exact HO646.out))) (bZ (by repeat first|exact HB.out|apply bA|apply bN|apply bD))); have n2_ := Az.mk (bS (by repeat first|exact HB.out|apply bA|apply bN|apply bD) hb); clear HO646; clear HB; have HO646 := n0_; have HO650 := n1_; have HB := n2_; clear n0_ n1_ n2_; (try clear hb); (try clear hb2); (try clear hk); (try clear hi); (try clear ho0)) | (go_at_call 36; (with_reducible refine (impl_LeftOver.calls kp a0 t651 t652 _ (HLd.out.below (by repeat first|exact HB.out|apply bA|apply bN|apply bD)) A8.out).mono ?_); rintro e w13 ⟨v653, rfl, ho0, hb⟩; have n0_ := Az.mk (Kd.Rb (by (with_reducible repeat first|apply Kd.Ra|apply Kd.Rn|apply Kd.Rw); exact HO646.out) hb); have n1_ := Az.mk (Kd.Rb (by (with_reducible repeat first|apply Kd.Ra|apply Kd.Rn|apply Kd.Rw); exact HO650.out) hb); have n2_ := Az.mk (Kd.R_lower ho0 (bZ (by repeat first|exact HB.out|apply bA|apply bN|apply bD))); have n3_ := Az.mk (bS (by repeat first|exact HB.out|apply bA|apply bN|apply bD) hb); clear HO646; clear HO650; clear HB; have HO646 := n0_; have HO650 := n1_; have HO654 := n2_; have HB := n3_; clear n0_ n1_ n2_ n3_; (try clear hb); (try clear hb2); (try clear hk); (try clear hi); (try clear ho0)) | (go_at_call 37; (with_reducible refine (spec_LeftOver.calls kp a0 t655 t656 _ A9.out).mono ?_); rintro e w14 ⟨v657, rfl, ho0, hb⟩; have n0_ := Az.mk (Kd.Rb (by (with_reducible repeat first|apply Kd.Ra|apply Kd.Rn|apply Kd.Rw); exact HO646.out) hb); have n1_ := Az.mk (Kd.Rb (by (with_reducible repeat first|apply Kd.Ra|apply Kd.Rn|apply Kd.Rw); exact HO650.out) hb); have n2_ := Az.mk (Kd.R_elder' (by (with_reducible repeat first|apply Kd.Ra|apply Kd.Rn|apply Kd.Rw); exact HO654.out) (Kd.R_base ho0) hb); have n3_ := Az.mk (Kd.R_lower (Kd.R_new' ho0 (Kd.R_lt (by (with_reducible repeat first|apply Kd.Ra|apply Kd.Rn|apply Kd.Rw); exact HO654.out))) (bZ (by repeat first|exact HB.out|apply bA|apply bN|apply bD))); have n4_ := Az.mk (bS (by repeat first|exact HB.out|apply bA|apply bN|apply bD) hb); clear HO646; clear HO650; clear HO654; clear HB; have HO646 := n0_; have HO650 := n1_; have HO654 := n2_; have HO658 := n3_; have HB := n4_; clear n0_ n1_ n2_ n3_ n4_; (try clear hb); (try clear hb2); (try clear hk); (try clear hi); (try clear ho0)) | (go_at_call 38; (with_reducible refine (drawValid_any _ _ n1 xs1 (HV1.out.below (by repeat first|exact HB.out|apply bA|apply bN|apply bD)) hn1).mono ?_); rintro e w15 ⟨a1, ha1, rfl, hb⟩; have n0_ := Az.mk (Kd.Rb (by (with_reducible repeat first|apply Kd.Ra|apply Kd.Rn|apply Kd.Rw); exact HO646.out) hb); have n1_ := Az.mk (Kd.Rb (by (with_reducible repeat first|apply Kd.Ra|apply Kd.Rn|apply Kd.Rw); exact HO650.out) hb); have n2_ := Az.mk (Kd.Rb (by (with_reducible repeat first|apply Kd.Ra|apply Kd.Rn|apply Kd.Rw); exact HO654.out) hb); have n3_ := Az.mk (Kd.Rb (by (with_reducible repeat first|apply Kd.Ra|apply Kd.Rn|apply Kd.Rw); exact HO658.out) hb); have n4_ := Az.mk (bS (by repeat first|exact HB.out|apply bA|apply bN|apply bD) hb); clear HO646; clear HO650; clear HO654; clear HO658; clear HB; have HO646 := n0_; have HO650 := n1_; have HO654 := n2_; have HO658 := n3_; have HB := n4_; clear n0_ n1_ n2_ n3_ n4_; (try clear hb)))
 repeat (go_quiet (first | (go_at_call 14; (with_reducible refine (impl_LivesOf.calls a0 t643 t644 _ (HLd.out.below (by repeat first|exact HB.out|apply bA|apply bN|apply bD)) A6.out).mono ?_); rintro e w11 ⟨v645, rfl, ho0, hb⟩; have n0_ := Az.mk (Kd.R_lower ho0 (bZ (by repeat first|exact HB.out|apply bA|apply bN|apply bD))); have n1_ := Az.mk (bS (by repeat first|exact HB.out|apply bA|apply bN|apply bD) hb); clear HB; have HO646 := n0_; have HB := n1_; clear n0_ n1_; (try clear hb); (try clear hb2); (try clear hk); (try clear hi); (try clear ho0)) | (go_at_call 35; (with_reducible refine (spec_LivesOf.calls kp a0 t647 t648 _ A7.out).mono ?_); rintro e w12 ⟨v649, rfl, ho0, hb⟩; have n0_ := Az.mk (Kd.R_elder' (by (with_reducible repeat first|apply Kd.Ra|apply Kd.Rn|apply Kd.Rw); exact HO646.out) (Kd.R_base ho0) hb); have n1_ := Az.mk (Kd.R_lower (Kd.R_new' ho0 (Kd.R_lt (by (with_reducible repeat first|apply Kd.Ra|apply Kd.Rn|apply Kd.Rw); exact HO646.out))) (bZ (by repeat first|exact HB.out|apply bA|apply bN|apply bD))); have n2_ := Az.mk (bS (by repeat first|exact HB.out|apply bA|apply bN|apply bD) hb); clear HO646; clear HB; have HO646 := n0_; have HO650 := n1_; have HB := n2_; clear n0_ n1_ n2_; (try clear hb); (try clear hb2); (try clear hk); (try clear hi); (try clear ho0)) | (go_at_call 36; (with_reducible refine (impl_LeftOver.calls kp a0 t651 t652 _ (HLd.out.below (by repeat first|exact HB.out|apply bA|apply bN|apply bD)) A8.out).mono ?_); rintro e w13 ⟨v653, rfl, ho0, hb⟩; have n0_ := Az.mk (Kd.Rb (by (with_reducible repeat first|apply Kd.Ra|apply Kd.Rn|apply Kd.Rw); exact HO646.out) hb); have n1_ := Az.mk (Kd.Rb (by (with_reducible repeat first|apply Kd.Ra|apply Kd.Rn|apply Kd.Rw); exact HO650.out) hb); have n2_ := Az.mk (Kd.R_lower ho0 (bZ (by repeat first|exact HB.out|apply bA|apply bN|apply bD))); have n3_ := Az.mk (bS (by repeat first|exact HB.out|apply bA|apply bN|apply bD) hb); clear HO646; clear HO650; clear HB; have HO646 := n0_; have HO650 := n1_; have HO654 := n2_; have HB := n3_; clear n0_ n1_ n2_ n3_; (try clear hb); (try clear hb2); (try clear hk); (try clear hi); (try clear ho0)) | (go_at_call 37; (with_reducible refine (spec_LeftOver.calls kp a0 t655 t656 _ A9.out).mono ?_); rintro e w14 ⟨v657, rfl, ho0, hb⟩; have n0_ := Az.mk (Kd.Rb (by (with_reducible repeat first|apply Kd.Ra|apply Kd.Rn|apply Kd.Rw); exact HO646.out) hb); have n1_ := Az.mk (Kd.Rb (by (with_reducible repeat first|apply Kd.Ra|apply Kd.Rn|apply Kd.Rw); exact HO650.out) hb); have n2_ := Az.mk (Kd.R_elder' (by (with_reducible repeat first|apply Kd.Ra|apply Kd.Rn|apply Kd.Rw); exact HO654.out) (Kd.R_base ho0) hb); have n3_ := Az.mk (Kd.R_lower (Kd.R_new' ho0 (Kd.R_lt (by (with_reducible repeat first|apply Kd.Ra|apply Kd.Rn|apply Kd.Rw); exact HO654.out))) (bZ (by repeat first|exact HB.out|apply bA|apply bN|apply bD))); have n4_ := Az.mk (bS (by repeat first|exact HB.out|apply bA|apply bN|apply bD) hb); clear HO646; clear HO650; clear HO654; clear HB; have HO646 := n0_; have HO650 := n1_; have HO654 := n2_; have HO658 := n3_; have HB := n4_; clear n0_ n1_ n2_ n3_ n4_; (try clear hb); (try clear hb2); (try clear hk); (try clear hi); (try clear ho0)) | (go_at_call 38; (with_reducible refine (drawValid_any _ _ n1 xs1 (HV1.out.below (by repeat first|exact HB.out|apply bA|apply bN|apply bD)) hn1).mono ?_); rintro e w15 ⟨a1, ha1, rfl, hb⟩; have n0_ := Az.mk (Kd.Rb (by (with_reducible repeat first|apply Kd.Ra|apply Kd.Rn|apply Kd.Rw); exact HO646.out) hb); have n1_ := Az.mk (Kd.Rb (by (with_reducible repeat first|apply Kd.Ra|apply Kd.Rn|apply Kd.Rw); exact HO650.out) hb); have n2_ := Az.mk (Kd.Rb (by (with_reducible repeat first|apply Kd.Ra|apply Kd.Rn|apply Kd.Rw); exact HO654.out) hb); have n3_ := Az.mk (Kd.Rb (by (with_reducible repeat first|apply Kd.Ra|apply Kd.Rn|apply Kd.Rw); exact HO658.out) hb); have n4_ := Az.mk (bS (by repeat first|exact HB.out|apply bA|apply bN|apply bD) hb); clear HO646; clear HO650; clear HO654; clear HO658; clear HB; have HO646 := n0_; have HO650 := n1_; have HO654 := n2_; have HO658 := n3_; have HB := n4_; clear n0_ n1_ n2_ n3_ n4_; (try clear hb))); go_upto_region 9 with (first | (go_at_call 14; (with_reducible refine (impl_LivesOf.calls a0 t643 t644 _ (HLd.out.below (by repeat first|exact HB.out|apply bA|apply bN|apply bD)) A6.out).mono ?_); rintro e w11 ⟨v645, rfl, ho0, hb⟩; have n0_ := Az.mk (Kd.R_lower ho0 (bZ (by repeat first|exact HB.out|apply bA|apply bN|apply bD))); have n1_ := Az.mk (bS (by repeat first|exact HB.out|apply bA|apply bN|apply bD) hb); clear HB; have HO646 := n0_; have HB := n1_; clear n0_ n1_; (try clear hb); (try clear hb2); (try clear hk); (try clear hi); (try clear ho0)) | (go_at_call 35; (with_reducible refine (spec_LivesOf.calls kp a0 t647 t648 _ A7.out).mono ?_); rintro e w12 ⟨v649, rfl, ho0, hb⟩; have n0_ := Az.mk (Kd.R_elder' (by (with_reducible repeat first|apply Kd.Ra|apply Kd.Rn|apply Kd.Rw); exact HO646.out) (Kd.R_base ho0) hb); have n1_ := Az.mk (Kd.R_lower (Kd.R_new' ho0 (Kd.R_lt (by (with_reducible repeat first|apply Kd.Ra|apply Kd.Rn|apply Kd.Rw); exact HO646.out))) (bZ (by repeat first|exact HB.out|apply bA|apply bN|apply bD))); have n2_ := Az.mk (bS (by repeat first|exact HB.out|apply bA|apply bN|apply bD) hb); clear HO646; clear HB; have HO646 := n0_; have HO650 := n1_; have HB := n2_; clear n0_ n1_ n2_; (try clear hb); (try clear hb2); (try clear hk); (try clear hi); (try clear ho0)) | (go_at_call 36; (with_reducible refine (impl_LeftOver.calls kp a0 t651 t652 _ (HLd.out.below (by repeat first|exact HB.out|apply bA|apply bN|apply bD)) A8.out).mono ?_); rintro e w13 ⟨v653, rfl, ho0, hb⟩; have n0_ := Az.mk (Kd.Rb (by (with_reducible repeat first|apply Kd.Ra|apply Kd.Rn|apply Kd.Rw); exact HO646.out) hb); have n1_ := Az.mk (Kd.Rb (by (with_reducible repeat first|apply Kd.Ra|apply Kd.Rn|apply Kd.Rw); exact HO650.out) hb); have n2_ := Az.mk (Kd.R_lower ho0 (bZ (by repeat first|exact HB.out|apply bA|apply bN|apply bD))); have n3_ := Az.mk (bS (by repeat first|exact HB.out|apply bA|apply bN|apply bD) hb); clear HO646; clear HO650; clear HB; have HO646 := n0_; have HO650 := n1_; have HO654 := n2_; have HB := n3_; clear n0_ n1_ n2_ n3_; (try clear hb); (try clear hb2); (try clear hk); (try clear hi); (try clear ho0)) | (go_at_call 37; (with_reducible refine (spec_LeftOver.calls kp a0 t655 t656 _ A9.out).mono ?_); rintro e w14 ⟨v657, rfl, ho0, hb⟩; have n0_ := Az.mk (Kd.Rb (by (with_reducible repeat first|apply Kd.Ra|apply Kd.Rn|apply Kd.Rw); exact HO646.out) hb); have n1_ := Az.mk (Kd.Rb (by (with_reducible repeat first|apply Kd.Ra|apply Kd.Rn|apply Kd.Rw); exact HO650.out) hb); have n2_ := Az.mk (Kd.R_elder' (by (with_reducible repeat first|apply Kd.Ra|apply Kd.Rn|apply Kd.Rw); exact HO654.out) (Kd.R_base ho0) hb); have n3_ := Az.mk (Kd.R_lower (Kd.R_new' ho0 (Kd.R_lt (by (with_reducible repeat first|apply Kd.Ra|apply Kd.Rn|apply Kd.Rw); exact HO654.out))) (bZ (by repeat first|exact HB.out|apply bA|apply bN|apply bD))); have n4_ := Az.mk (bS (by repeat first|exact HB.out|apply bA|apply bN|apply bD) hb); clear HO646; clear HO650; clear HO654; clear HB; have HO646 := n0_; have HO650 := n1_; have HO654 := n2_; have HO658 := n3_; have HB := n4_; clear n0_ n1_ n2_ n3_ n4_; (try clear hb); (try clear hb2); (try clear hk); (try clear hi); (try clear ho0)) | (go_at_call 38; (with_reducible refine (drawValid_any _ _ n1 xs1 (HV1.out.below (by repeat first|exact HB.out|apply bA|apply bN|apply bD)) hn1).mono ?_); rintro e w15 ⟨a1, ha1, rfl, hb⟩; have n0_ := Az.mk (Kd.Rb (by (with_reducible repeat first|apply Kd.Ra|apply Kd.Rn|apply Kd.Rw); exact HO646.out) hb); have n1_ := Az.mk (Kd.Rb (by (with_reducible repeat first|apply Kd.Ra|apply Kd.Rn|apply Kd.Rw); exact HO650.out) hb); have n2_ := Az.mk (Kd.Rb (by (with_reducible repeat first|apply Kd.Ra|apply Kd.Rn|apply Kd.Rw); exact HO654.out) hb); have n3_ := Az.mk (Kd.Rb (by (with_reducible repeat first|apply Kd.Ra|apply Kd.Rn|apply Kd.Rw); exact HO658.out) hb); have n4_ := Az.mk (bS (by repeat first|exact HB.out|apply bA|apply bN|apply bD) hb); clear HO646; clear HO650; clear HO654; clear HO658; clear HB; have HO646 := n0_; have HO650 := n1_; have HO654 := n2_; have HO658 := n3_; have HB := n4_; clear n0_ n1_ n2_ n3_ n4_; (try clear hb))))
 obtain ⟨k1, h1⟩ := HP.out a0 a1 ha0 ha1
 obtain ⟨kj2, H⟩ : ∃ kj2, (if (t644 != t648) = true then (laws_FnLives.j1 kj2 a0 t643 t644 t647 t648 t651 t652 t655 a1 true) else ((laws_elSame.f kj2 t651 t655).bind fun t659 => (if t659 = true then (if (t652 != t644) = true then (laws_FnLives.j1 kj2 a0 t643 t644 t647 t648 t651 t652 t655 a1 true) else ((impl_EventsValid.f a0).bind fun t660 => (if (t644 != t660) = true then (laws_FnLives.j1 kj2 a0 t643 t644 t647 t648 t651 t652 t655 a1 true) else (if (t643.length : Int) = (t647.length : Int) then ((impl_EventsValid.f a1).bind fun t661 => ((spec_EventsValid.f kj2 a1).bind fun t662 => (if (t661 != t662) = true then (laws_FnLives.j1 kj2 a0 t643 t644 t647 t648 t651 t652 t655 a1 true) else (laws_FnLives.j1 kj2 a0 t643 t644 t647 t648 t651 t652 t655 a1 (!t644))))) else (laws_FnLives.j1 kj2 a0 t643 t644 t647 t648 t651 t652 t655 a1 true))))) else (laws_FnLives.j1 kj2 a0 t643 t644 t647 t648 t651 t652 t655 a1 true)))) = some r := by
  have A7' := lift_o (f := fun k => spec_LivesOf.f k a0) (spec_LivesOf.mono a0) (k1 + 1) A7.out
  have A8' := lift_o (f := fun k => impl_LeftOver.f k a0) (impl_LeftOver.mono a0) (k1 + 1) A8.out
  have A9' := lift_o (f := fun k => spec_LeftOver.f k a0) (spec_LeftOver.mono a0) (k1 + 1) A9.out
  have H := lift_o (f := fun k => laws_FnLives.f k a0 a1) (laws_FnLives.mono a0 a1) (kp + 2) h1
  (try dsimp only at H)
  (try dsimp only at A7')
  (try dsimp only at A8')
  (try dsimp only at A9')
  rw [show k1 + (kp + 2) = (kp + (k1 + 1)) + 1 by omega] at H
  unfold laws_FnLives.f at H
  rw [if_neg (by omega), decide_eq_false (by omega)] at H
  simp only [laws_FnLives.j0, Bool.false_eq_true, if_false, A6.out, A7', A8', A9', Option.bind_some] at H
  exact ⟨_, H⟩
 have HJ2 := Az.mk (Nat.le_refl (kj2 + 1))
 have HC10 := Az.mk H
 clear H h1
 clear A6 A7 A8 A9
 (try simp only [Act.put, List.setIfInBounds_toArray, List.set_cons_zero, List.set_cons_succ])
 go_cut [88] (fun v88 wc => ∃ (kq : Nat) (x88_9 : Bool), v88 = .bool x88_9 ∧ Az (laws_FnLives.j1 kq a0 t643 t644 t647 t648 t651 t652 t655 a1 x88_9 = some r) ∧ Az (kq ≤ kj2) ∧ Az (Kd.R k31 31 wc w.heap.size (fun k_ => some k_ ≠ (v649 : Value).ownBlock) v645 t643) ∧ Az (Kd.R k31 31 wc w.heap.size (fun k_ => some k_ ≠ (v645 : Value).ownBlock) v649 t647) ∧ Az (Kd.R (Kd.int .i64) 3 wc w.heap.size (fun k_ => some k_ ≠ (v657 : Value).ownBlock) v653 t651) ∧ Az (Kd.R (Kd.int .i64) 3 wc w.heap.size (fun k_ => some k_ ≠ (v653 : Value).ownBlock) v657 t655) ∧ Az (Below w.heap.size w wc))
 case first => as_aux_lemma =>
  have H := HC10.out
  clear HC10
  by_cases c15 : (t644 != t648) = true
  ·rw [if_pos c15] at H
   have c15b0 : (t644 != t648) = true := c15
   (try (have c15b1 : decide (t644 = t648) = false := by simpa using c15))
   (try (have c15b2 : (t644 == t648) = false := by simpa using c15))
   (try (have c15b3 : ¬ (t644 = t648) := by simpa using c15))
   clear c15
   (first | rw [c15b0] | (simp only [i64_w, i32_w]; rw [c15b0]) | skip)
   have H' := Az.mk H
   clear H
   go_wp2
   repeat (go_quiet (fail); try go_wp2)
   go_meet
   case rel => exact ⟨_, (true), (by first | rfl | (simp; done) | (simp [*]; done)), H', ⟨by have := HJ2.out; first | omega | exact Nat.le_refl _⟩, ⟨by (with_reducible repeat first|apply Kd.Ra|apply Kd.Rn|apply Kd.Rw); exact Kd.R_mono HO646.out (fun _ hk => hk.2)⟩, ⟨by (with_reducible repeat first|apply Kd.Ra|apply Kd.Rn|apply Kd.Rw); exact Kd.R_mono HO650.out (fun _ hk => hk.2)⟩, ⟨by (with_reducible repeat first|apply Kd.Ra|apply Kd.Rn|apply Kd.Rw); exact Kd.R_mono HO654.out (fun _ hk => hk.2)⟩, ⟨by (with_reducible repeat first|apply Kd.Ra|apply Kd.Rn|apply Kd.Rw); exact Kd.R_mono HO658.out (fun _ hk => hk.2)⟩, ⟨by repeat (first | (with_reducible first|exact HB.out|apply bA|apply bN|apply bD) | exact HB.out)⟩⟩
  ·rw [if_neg c15] at H
   have c15b0 : (t644 != t648) = false := by simpa using c15
   (try (have c15b1 : decide (t644 = t648) = true := by simpa using c15))
   (try (have c15b2 : (t644 == t648) = true := by simpa using c15))
   clear c15
   (first | rw [c15b0] | (simp only [i64_w, i32_w]; rw [c15b0]) | skip)
   replace H := Option.bind_eq_some_iff.mp H
   obtain ⟨t659, A160, H⟩ := H
   replace H : (if t659 = true then (if (t652 != t644) = true then (laws_FnLives.j1 kj2 a0 t643 t644 t647 t648 t651 t652 t655 a1 true) else ((impl_EventsValid.f a0).bind fun t660 => (if (t644 != t660) = true then (laws_FnLives.j1 kj2 a0 t643 t644 t647 t648 t651 t652 t655 a1 true) else (if (t643.length : Int) = (t647.length : Int) then ((impl_EventsValid.f a1).bind fun t661 => ((spec_EventsValid.f kj2 a1).bind fun t662 => (if (t661 != t662) = true then (laws_FnLives.j1 kj2 a0 t643 t644 t647 t648 t651 t652 t655 a1 true) else (laws_FnLives.j1 kj2 a0 t643 t644 t647 t648 t651 t652 t655 a1 (!t644))))) else (laws_FnLives.j1 kj2 a0 t643 t644 t647 t648 t651 t652 t655 a1 true))))) else (laws_FnLives.j1 kj2 a0 t643 t644 t647 t648 t651 t652 t655 a1 true)) = some r := H
   have A16 := Az.mk A160
   clear A160
   by_cases c17 : t659 = true
   ·subst c17
    have H1 : (if (t652 != t644) = true then (laws_FnLives.j1 kj2 a0 t643 t644 t647 t648 t651 t652 t655 a1 true) else ((impl_EventsValid.f a0).bind fun t660 => (if (t644 != t660) = true then (laws_FnLives.j1 kj2 a0 t643 t644 t647 t648 t651 t652 t655 a1 true) else (if (t643.length : Int) = (t647.length : Int) then ((impl_EventsValid.f a1).bind fun t661 => ((spec_EventsValid.f kj2 a1).bind fun t662 => (if (t661 != t662) = true then (laws_FnLives.j1 kj2 a0 t643 t644 t647 t648 t651 t652 t655 a1 true) else (laws_FnLives.j1 kj2 a0 t643 t644 t647 t648 t651 t652 t655 a1 (!t644))))) else (laws_FnLives.j1 kj2 a0 t643 t644 t647 t648 t651 t652 t655 a1 true))))) = some r := by rw [if_pos rfl] at H; exact H
    clear H
    have H := H1
    clear H1
    by_cases c18 : (t652 != t644) = true
    ·rw [if_pos c18] at H
     have c18b0 : (t652 != t644) = true := c18
     (try (have c18b1 : decide (t652 = t644) = false := by simpa using c18))
     (try (have c18b2 : (t652 == t644) = false := by simpa using c18))
     (try (have c18b3 : ¬ (t652 = t644) := by simpa using c18))
     clear c18
     have H' := Az.mk H
     clear H
     obtain ⟨Ao19, co19, eo19⟩ := Kd.R_slice HO654.out
     subst eo19
     obtain ⟨Ao20, co20, eo20⟩ := Kd.R_slice HO658.out
     subst eo20
     go_wp2_with (first | (go_at_call 23; (with_reducible refine (laws_elSame.calls kj2 _ _ t651 _ _ t655 true _ ?side1 ?side2 ?side3 ?side4 A16.out).mono ?_); (case side1 => repeat (first | exact (Kd.R_reads' HO654.out).2.2 | (with_reducible refine Kd.C_alloc ?_ _) | (with_reducible refine Kd.C_drewN ?_ _) | (with_reducible refine Kd.C_drew ?_))); (case side2 => exact (Kd.R_reads' HO654.out).2.1); (case side3 => repeat (first | exact (Kd.R_reads' HO658.out).2.2 | (with_reducible refine Kd.C_alloc ?_ _) | (with_reducible refine Kd.C_drewN ?_ _) | (with_reducible refine Kd.C_drew ?_))); (case side4 => exact (Kd.R_reads' HO658.out).2.1); rintro e w21 ⟨rfl, hb⟩; have n0_ := Az.mk (Kd.Rb (by (with_reducible repeat first|apply Kd.Ra|apply Kd.Rn|apply Kd.Rw); exact HO646.out) hb); have n1_ := Az.mk (Kd.Rb (by (with_reducible repeat first|apply Kd.Ra|apply Kd.Rn|apply Kd.Rw); exact HO650.out) hb); have n2_ := Az.mk (Kd.Rb (by (with_reducible repeat first|apply Kd.Ra|apply Kd.Rn|apply Kd.Rw); exact HO654.out) hb); have n3_ := Az.mk (Kd.Rb (by (with_reducible repeat first|apply Kd.Ra|apply Kd.Rn|apply Kd.Rw); exact HO658.out) hb); have n4_ := Az.mk (bS (by repeat first|exact HB.out|apply bA|apply bN|apply bD) hb); clear HO646; clear HO650; clear HO654; clear HO658; clear HB; have HO646 := n0_; have HO650 := n1_; have HO654 := n2_; have HO658 := n3_; have HB := n4_; clear n0_ n1_ n2_ n3_ n4_; (try clear hb); (try clear hb2); (try clear hk); (try clear hi)))
     repeat (go_quiet (first | (go_at_call 23; (with_reducible refine (laws_elSame.calls kj2 _ _ t651 _ _ t655 true _ ?side1 ?side2 ?side3 ?side4 A16.out).mono ?_); (case side1 => repeat (first | exact (Kd.R_reads' HO654.out).2.2 | (with_reducible refine Kd.C_alloc ?_ _) | (with_reducible refine Kd.C_drewN ?_ _) | (with_reducible refine Kd.C_drew ?_))); (case side2 => exact (Kd.R_reads' HO654.out).2.1); (case side3 => repeat (first | exact (Kd.R_reads' HO658.out).2.2 | (with_reducible refine Kd.C_alloc ?_ _) | (with_reducible refine Kd.C_drewN ?_ _) | (with_reducible refine Kd.C_drew ?_))); (case side4 => exact (Kd.R_reads' HO658.out).2.1); rintro e w21 ⟨rfl, hb⟩; have n0_ := Az.mk (Kd.Rb (by (with_reducible repeat first|apply Kd.Ra|apply Kd.Rn|apply Kd.Rw); exact HO646.out) hb); have n1_ := Az.mk (Kd.Rb (by (with_reducible repeat first|apply Kd.Ra|apply Kd.Rn|apply Kd.Rw); exact HO650.out) hb); have n2_ := Az.mk (Kd.Rb (by (with_reducible repeat first|apply Kd.Ra|apply Kd.Rn|apply Kd.Rw); exact HO654.out) hb); have n3_ := Az.mk (Kd.Rb (by (with_reducible repeat first|apply Kd.Ra|apply Kd.Rn|apply Kd.Rw); exact HO658.out) hb); have n4_ := Az.mk (bS (by repeat first|exact HB.out|apply bA|apply bN|apply bD) hb); clear HO646; clear HO650; clear HO654; clear HO658; clear HB; have HO646 := n0_; have HO650 := n1_; have HO654 := n2_; have HO658 := n3_; have HB := n4_; clear n0_ n1_ n2_ n3_ n4_; (try clear hb); (try clear hb2); (try clear hk); (try clear hi))); try go_wp2_with (first | (go_at_call 23; (with_reducible refine (laws_elSame.calls kj2 _ _ t651 _ _ t655 true _ ?side1 ?side2 ?side3 ?side4 A16.out).mono ?_); (case side1 => repeat (first | exact (Kd.R_reads' HO654.out).2.2 | (with_reducible refine Kd.C_alloc ?_ _) | (with_reducible refine Kd.C_drewN ?_ _) | (with_reducible refine Kd.C_drew ?_))); (case side2 => exact (Kd.R_reads' HO654.out).2.1); (case side3 => repeat (first | exact (Kd.R_reads' HO658.out).2.2 | (with_reducible refine Kd.C_alloc ?_ _) | (with_reducible refine Kd.C_drewN ?_ _) | (with_reducible refine Kd.C_drew ?_))); (case side4 => exact (Kd.R_reads' HO658.out).2.1); rintro e w21 ⟨rfl, hb⟩; have n0_ := Az.mk (Kd.Rb (by (with_reducible repeat first|apply Kd.Ra|apply Kd.Rn|apply Kd.Rw); exact HO646.out) hb); have n1_ := Az.mk (Kd.Rb (by (with_reducible repeat first|apply Kd.Ra|apply Kd.Rn|apply Kd.Rw); exact HO650.out) hb); have n2_ := Az.mk (Kd.Rb (by (with_reducible repeat first|apply Kd.Ra|apply Kd.Rn|apply Kd.Rw); exact HO654.out) hb); have n3_ := Az.mk (Kd.Rb (by (with_reducible repeat first|apply Kd.Ra|apply Kd.Rn|apply Kd.Rw); exact HO658.out) hb); have n4_ := Az.mk (bS (by repeat first|exact HB.out|apply bA|apply bN|apply bD) hb); clear HO646; clear HO650; clear HO654; clear HO658; clear HB; have HO646 := n0_; have HO650 := n1_; have HO654 := n2_; have HO658 := n3_; have HB := n4_; clear n0_ n1_ n2_ n3_ n4_; (try clear hb); (try clear hb2); (try clear hk); (try clear hi))))
     go_meet
     case rel => exact ⟨_, (true), (by first | rfl | (simp; done) | (simp [*]; done)), H', ⟨by have := HJ2.out; first | omega | exact Nat.le_refl _⟩, ⟨by (with_reducible repeat first|apply Kd.Ra|apply Kd.Rn|apply Kd.Rw); exact Kd.R_mono HO646.out (fun _ hk => hk.2)⟩, ⟨by (with_reducible repeat first|apply Kd.Ra|apply Kd.Rn|apply Kd.Rw); exact Kd.R_mono HO650.out (fun _ hk => hk.2)⟩, ⟨by (with_reducible repeat first|apply Kd.Ra|apply Kd.Rn|apply Kd.Rw); exact Kd.R_mono HO654.out (fun _ hk => hk.2)⟩, ⟨by (with_reducible repeat first|apply Kd.Ra|apply Kd.Rn|apply Kd.Rw); exact Kd.R_mono HO658.out (fun _ hk => hk.2)⟩, ⟨by repeat (first | (with_reducible first|exact HB.out|apply bA|apply bN|apply bD) | exact HB.out)⟩⟩
    ·rw [if_neg c18] at H
     have c18b0 : (t652 != t644) = false := by simpa using c18
     (try (have c18b1 : decide (t652 = t644) = true := by simpa using c18))
     (try (have c18b2 : (t652 == t644) = true := by simpa using c18))
     clear c18
     replace H := Option.bind_eq_some_iff.mp H
     obtain ⟨t660, A220, H⟩ := H
     replace H : (if (t644 != t660) = true then (laws_FnLives.j1 kj2 a0 t643 t644 t647 t648 t651 t652 t655 a1 true) else (if (t643.length : Int) = (t647.length : Int) then ((impl_EventsValid.f a1).bind fun t661 => ((spec_EventsValid.f kj2 a1).bind fun t662 => (if (t661 != t662) = true then (laws_FnLives.j1 kj2 a0 t643 t644 t647 t648 t651 t652 t655 a1 true) else (laws_FnLives.j1 kj2 a0 t643 t644 t647 t648 t651 t652 t655 a1 (!t644))))) else (laws_FnLives.j1 kj2 a0 t643 t644 t647 t648 t651 t652 t655 a1 true))) = some r := H
     have A22 := Az.mk A220
     clear A220
     by_cases c23 : (t644 != t660) = true
     ·rw [if_pos c23] at H
      have c23b0 : (t644 != t660) = true := c23
      (try (have c23b1 : decide (t644 = t660) = false := by simpa using c23))
      (try (have c23b2 : (t644 == t660) = false := by simpa using c23))
      (try (have c23b3 : ¬ (t644 = t660) := by simpa using c23))
      clear c23
      have H' := Az.mk H
      clear H
      obtain ⟨Ao24, co24, eo24⟩ := Kd.R_slice HO654.out
      subst eo24
      obtain ⟨Ao25, co25, eo25⟩ := Kd.R_slice HO658.out
      subst eo25
      go_wp2_with (first | (go_at_call 23; (with_reducible refine (laws_elSame.calls kj2 _ _ t651 _ _ t655 true _ ?side1 ?side2 ?side3 ?side4 A16.out).mono ?_); (case side1 => repeat (first | exact (Kd.R_reads' HO654.out).2.2 | (with_reducible refine Kd.C_alloc ?_ _) | (with_reducible refine Kd.C_drewN ?_ _) | (with_reducible refine Kd.C_drew ?_))); (case side2 => exact (Kd.R_reads' HO654.out).2.1); (case side3 => repeat (first | exact (Kd.R_reads' HO658.out).2.2 | (with_reducible refine Kd.C_alloc ?_ _) | (with_reducible refine Kd.C_drewN ?_ _) | (with_reducible refine Kd.C_drew ?_))); (case side4 => exact (Kd.R_reads' HO658.out).2.1); rintro e w26 ⟨rfl, hb⟩; have n0_ := Az.mk (Kd.Rb (by (with_reducible repeat first|apply Kd.Ra|apply Kd.Rn|apply Kd.Rw); exact HO646.out) hb); have n1_ := Az.mk (Kd.Rb (by (with_reducible repeat first|apply Kd.Ra|apply Kd.Rn|apply Kd.Rw); exact HO650.out) hb); have n2_ := Az.mk (Kd.Rb (by (with_reducible repeat first|apply Kd.Ra|apply Kd.Rn|apply Kd.Rw); exact HO654.out) hb); have n3_ := Az.mk (Kd.Rb (by (with_reducible repeat first|apply Kd.Ra|apply Kd.Rn|apply Kd.Rw); exact HO658.out) hb); have n4_ := Az.mk (bS (by repeat first|exact HB.out|apply bA|apply bN|apply bD) hb); clear HO646; clear HO650; clear HO654; clear HO658; clear HB; have HO646 := n0_; have HO650 := n1_; have HO654 := n2_; have HO658 := n3_; have HB := n4_; clear n0_ n1_ n2_ n3_ n4_; (try clear hb); (try clear hb2); (try clear hk); (try clear hi)) | (go_at_call 39; (with_reducible refine (impl_EventsValid.calls a0 t660 _ (HLd.out.below (by repeat first|exact HB.out|apply bA|apply bN|apply bD)) A22.out).mono ?_); rintro e w27 ⟨rfl, hb⟩; have n0_ := Az.mk (Kd.Rb (by (with_reducible repeat first|apply Kd.Ra|apply Kd.Rn|apply Kd.Rw); exact HO646.out) hb); have n1_ := Az.mk (Kd.Rb (by (with_reducible repeat first|apply Kd.Ra|apply Kd.Rn|apply Kd.Rw); exact HO650.out) hb); have n2_ := Az.mk (Kd.Rb (by (with_reducible repeat first|apply Kd.Ra|apply Kd.Rn|apply Kd.Rw); exact HO654.out) hb); have n3_ := Az.mk (Kd.Rb (by (with_reducible repeat first|apply Kd.Ra|apply Kd.Rn|apply Kd.Rw); exact HO658.out) hb); have n4_ := Az.mk (bS (by repeat first|exact HB.out|apply bA|apply bN|apply bD) hb); clear HO646; clear HO650; clear HO654; clear HO658; clear HB; have HO646 := n0_; have HO650 := n1_; have HO654 := n2_; have HO658 := n3_; have HB := n4_; clear n0_ n1_ n2_ n3_ n4_; (try clear hb); (try clear hb2); (try clear hk); (try clear hi)))
      repeat (go_quiet (first | (go_at_call 23; (with_reducible refine (laws_elSame.calls kj2 _ _ t651 _ _ t655 true _ ?side1 ?side2 ?side3 ?side4 A16.out).mono ?_); (case side1 => repeat (first | exact (Kd.R_reads' HO654.out).2.2 | (with_reducible refine Kd.C_alloc ?_ _) | (with_reducible refine Kd.C_drewN ?_ _) | (with_reducible refine Kd.C_drew ?_))); (case side2 => exact (Kd.R_reads' HO654.out).2.1); (case side3 => repeat (first | exact (Kd.R_reads' HO658.out).2.2 | (with_reducible refine Kd.C_alloc ?_ _) | (with_reducible refine Kd.C_drewN ?_ _) | (with_reducible refine Kd.C_drew ?_))); (case side4 => exact (Kd.R_reads' HO658.out).2.1); rintro e w26 ⟨rfl, hb⟩; have n0_ := Az.mk (Kd.Rb (by (with_reducible repeat first|apply Kd.Ra|apply Kd.Rn|apply Kd.Rw); exact HO646.out) hb); have n1_ := Az.mk (Kd.Rb (by (with_reducible repeat first|apply Kd.Ra|apply Kd.Rn|apply Kd.Rw); exact HO650.out) hb); have n2_ := Az.mk (Kd.Rb (by (with_reducible repeat first|apply Kd.Ra|apply Kd.Rn|apply Kd.Rw); exact HO654.out) hb); have n3_ := Az.mk (Kd.Rb (by (with_reducible repeat first|apply Kd.Ra|apply Kd.Rn|apply Kd.Rw); exact HO658.out) hb); have n4_ := Az.mk (bS (by repeat first|exact HB.out|apply bA|apply bN|apply bD) hb); clear HO646; clear HO650; clear HO654; clear HO658; clear HB; have HO646 := n0_; have HO650 := n1_; have HO654 := n2_; have HO658 := n3_; have HB := n4_; clear n0_ n1_ n2_ n3_ n4_; (try clear hb); (try clear hb2); (try clear hk); (try clear hi)) | (go_at_call 39; (with_reducible refine (impl_EventsValid.calls a0 t660 _ (HLd.out.below (by repeat first|exact HB.out|apply bA|apply bN|apply bD)) A22.out).mono ?_); rintro e w27 ⟨rfl, hb⟩; have n0_ := Az.mk (Kd.Rb (by (with_reducible repeat first|apply Kd.Ra|apply Kd.Rn|apply Kd.Rw); exact HO646.out) hb); have n1_ := Az.mk (Kd.Rb (by (with_reducible repeat first|apply Kd.Ra|apply Kd.Rn|apply Kd.Rw); exact HO650.out) hb); have n2_ := Az.mk (Kd.Rb (by (with_reducible repeat first|apply Kd.Ra|apply Kd.Rn|apply Kd.Rw); exact HO654.out) hb); have n3_ := Az.mk (Kd.Rb (by (with_reducible repeat first|apply Kd.Ra|apply Kd.Rn|apply Kd.Rw); exact HO658.out) hb); have n4_ := Az.mk (bS (by repeat first|exact HB.out|apply bA|apply bN|apply bD) hb); clear HO646; clear HO650; clear HO654; clear HO658; clear HB; have HO646 := n0_; have HO650 := n1_; have HO654 := n2_; have HO658 := n3_; have HB := n4_; clear n0_ n1_ n2_ n3_ n4_; (try clear hb); (try clear hb2); (try clear hk); (try clear hi))); try go_wp2_with (first | (go_at_call 23; (with_reducible refine (laws_elSame.calls kj2 _ _ t651 _ _ t655 true _ ?side1 ?side2 ?side3 ?side4 A16.out).mono ?_); (case side1 => repeat (first | exact (Kd.R_reads' HO654.out).2.2 | (with_reducible refine Kd.C_alloc ?_ _) | (with_reducible refine Kd.C_drewN ?_ _) | (with_reducible refine Kd.C_drew ?_))); (case side2 => exact (Kd.R_reads' HO654.out).2.1); (case side3 => repeat (first | exact (Kd.R_reads' HO658.out).2.2 | (with_reducible refine Kd.C_alloc ?_ _) | (with_reducible refine Kd.C_drewN ?_ _) | (with_reducible refine Kd.C_drew ?_))); (case side4 => exact (Kd.R_reads' HO658.out).2.1); rintro e w26 ⟨rfl, hb⟩; have n0_ := Az.mk (Kd.Rb (by (with_reducible repeat first|apply Kd.Ra|apply Kd.Rn|apply Kd.Rw); exact HO646.out) hb); have n1_ := Az.mk (Kd.Rb (by (with_reducible repeat first|apply Kd.Ra|apply Kd.Rn|apply Kd.Rw); exact HO650.out) hb); have n2_ := Az.mk (Kd.Rb (by (with_reducible repeat first|apply Kd.Ra|apply Kd.Rn|apply Kd.Rw); exact HO654.out) hb); have n3_ := Az.mk (Kd.Rb (by (with_reducible repeat first|apply Kd.Ra|apply Kd.Rn|apply Kd.Rw); exact HO658.out) hb); have n4_ := Az.mk (bS (by repeat first|exact HB.out|apply bA|apply bN|apply bD) hb); clear HO646; clear HO650; clear HO654; clear HO658; clear HB; have HO646 := n0_; have HO650 := n1_; have HO654 := n2_; have HO658 := n3_; have HB := n4_; clear n0_ n1_ n2_ n3_ n4_; (try clear hb); (try clear hb2); (try clear hk); (try clear hi)) | (go_at_call 39; (with_reducible refine (impl_EventsValid.calls a0 t660 _ (HLd.out.below (by repeat first|exact HB.out|apply bA|apply bN|apply bD)) A22.out).mono ?_); rintro e w27 ⟨rfl, hb⟩; have n0_ := Az.mk (Kd.Rb (by (with_reducible repeat first|apply Kd.Ra|apply Kd.Rn|apply Kd.Rw); exact HO646.out) hb); have n1_ := Az.mk (Kd.Rb (by (with_reducible repeat first|apply Kd.Ra|apply Kd.Rn|apply Kd.Rw); exact HO650.out) hb); have n2_ := Az.mk (Kd.Rb (by (with_reducible repeat first|apply Kd.Ra|apply Kd.Rn|apply Kd.Rw); exact HO654.out) hb); have n3_ := Az.mk (Kd.Rb (by (with_reducible repeat first|apply Kd.Ra|apply Kd.Rn|apply Kd.Rw); exact HO658.out) hb); have n4_ := Az.mk (bS (by repeat first|exact HB.out|apply bA|apply bN|apply bD) hb); clear HO646; clear HO650; clear HO654; clear HO658; clear HB; have HO646 := n0_; have HO650 := n1_; have HO654 := n2_; have HO658 := n3_; have HB := n4_; clear n0_ n1_ n2_ n3_ n4_; (try clear hb); (try clear hb2); (try clear hk); (try clear hi))))
      go_meet
      case rel => exact ⟨_, (true), (by first | rfl | (simp; done) | (simp [*]; done)), H', ⟨by have := HJ2.out; first | omega | exact Nat.le_refl _⟩, ⟨by (with_reducible repeat first|apply Kd.Ra|apply Kd.Rn|apply Kd.Rw); exact Kd.R_mono HO646.out (fun _ hk => hk.2)⟩, ⟨by (with_reducible repeat first|apply Kd.Ra|apply Kd.Rn|apply Kd.Rw); exact Kd.R_mono HO650.out (fun _ hk => hk.2)⟩, ⟨by (with_reducible repeat first|apply Kd.Ra|apply Kd.Rn|apply Kd.Rw); exact Kd.R_mono HO654.out (fun _ hk => hk.2)⟩, ⟨by (with_reducible repeat first|apply Kd.Ra|apply Kd.Rn|apply Kd.Rw); exact Kd.R_mono HO658.out (fun _ hk => hk.2)⟩, ⟨by repeat (first | (with_reducible first|exact HB.out|apply bA|apply bN|apply bD) | exact HB.out)⟩⟩
     ·rw [if_neg c23] at H
      have c23b0 : (t644 != t660) = false := by simpa using c23
      (try (have c23b1 : decide (t644 = t660) = true := by simpa using c23))
      (try (have c23b2 : (t644 == t660) = true := by simpa using c23))
      clear c23
      by_cases c28 : (t643.length : Int) = (t647.length : Int)
      ·rw [if_pos c28] at H
       have c28b0 : ((t643.length : Int) == (t647.length : Int)) = true := beq_iff_eq.mpr c28
       have c28b1 : ((t643.length : Int) != (t647.length : Int)) = false := bne_eq_false_iff_eq.mpr c28
       have c28b2 : (t643.length == t647.length) = true := by first | simpa using c28 | (simp at c28 ⊢; omega)
       clear c28
       replace H := Option.bind_eq_some_iff.mp H
       obtain ⟨t661, A290, H⟩ := H
       replace H : ((spec_EventsValid.f kj2 a1).bind fun t662 => (if (t661 != t662) = true then (laws_FnLives.j1 kj2 a0 t643 t644 t647 t648 t651 t652 t655 a1 true) else (laws_FnLives.j1 kj2 a0 t643 t644 t647 t648 t651 t652 t655 a1 (!t644)))) = some r := H
       have A29 := Az.mk A290
       clear A290
       replace H := Option.bind_eq_some_iff.mp H
       obtain ⟨t662, A300, H⟩ := H
       replace H : (if (t661 != t662) = true then (laws_FnLives.j1 kj2 a0 t643 t644 t647 t648 t651 t652 t655 a1 true) else (laws_FnLives.j1 kj2 a0 t643 t644 t647 t648 t651 t652 t655 a1 (!t644))) = some r := H
       have A30 := Az.mk A300
       clear A300
       by_cases c31 : (t661 != t662) = true
       ·rw [if_pos c31] at H
        have c31b0 : (t661 != t662) = true := c31
        (try (have c31b1 : decide (t661 = t662) = false := by simpa using c31))
        (try (have c31b2 : (t661 == t662) = false := by simpa using c31))
        (try (have c31b3 : ¬ (t661 = t662) := by simpa using c31))
        clear c31
        have H' := Az.mk H
        clear H
        obtain ⟨Ao32, co32, eo32⟩ := Kd.R_slice HO654.out
        subst eo32
        obtain ⟨Ao33, co33, eo33⟩ := Kd.R_slice HO658.out
        subst eo33
        go_wp2_with (first | (go_at_call 23; (with_reducible refine (laws_elSame.calls kj2 _ _ t651 _ _ t655 true _ ?side1 ?side2 ?side3 ?side4 A16.out).mono ?_); (case side1 => repeat (first | exact (Kd.R_reads' HO654.out).2.2 | (with_reducible refine Kd.C_alloc ?_ _) | (with_reducible refine Kd.C_drewN ?_ _) | (with_reducible refine Kd.C_drew ?_))); (case side2 => exact (Kd.R_reads' HO654.out).2.1); (case side3 => repeat (first | exact (Kd.R_reads' HO658.out).2.2 | (with_reducible refine Kd.C_alloc ?_ _) | (with_reducible refine Kd.C_drewN ?_ _) | (with_reducible refine Kd.C_drew ?_))); (case side4 => exact (Kd.R_reads' HO658.out).2.1); rintro e w34 ⟨rfl, hb⟩; have n0_ := Az.mk (Kd.Rb (by (with_reducible repeat first|apply Kd.Ra|apply Kd.Rn|apply Kd.Rw); exact HO646.out) hb); have n1_ := Az.mk (Kd.Rb (by (with_reducible repeat first|apply Kd.Ra|apply Kd.Rn|apply Kd.Rw); exact HO650.out) hb); have n2_ := Az.mk (Kd.Rb (by (with_reducible repeat first|apply Kd.Ra|apply Kd.Rn|apply Kd.Rw); exact HO654.out) hb); have n3_ := Az.mk (Kd.Rb (by (with_reducible repeat first|apply Kd.Ra|apply Kd.Rn|apply Kd.Rw); exact HO658.out) hb); have n4_ := Az.mk (bS (by repeat first|exact HB.out|apply bA|apply bN|apply bD) hb); clear HO646; clear HO650; clear HO654; clear HO658; clear HB; have HO646 := n0_; have HO650 := n1_; have HO654 := n2_; have HO658 := n3_; have HB := n4_; clear n0_ n1_ n2_ n3_ n4_; (try clear hb); (try clear hb2); (try clear hk); (try clear hi)) | (go_at_call 39; (with_reducible refine (impl_EventsValid.calls a0 t660 _ (HLd.out.below (by repeat first|exact HB.out|apply bA|apply bN|apply bD)) A22.out).mono ?_); rintro e w35 ⟨rfl, hb⟩; have n0_ := Az.mk (Kd.Rb (by (with_reducible repeat first|apply Kd.Ra|apply Kd.Rn|apply Kd.Rw); exact HO646.out) hb); have n1_ := Az.mk (Kd.Rb (by (with_reducible repeat first|apply Kd.Ra|apply Kd.Rn|apply Kd.Rw); exact HO650.out) hb); have n2_ := Az.mk (Kd.Rb (by (with_reducible repeat first|apply Kd.Ra|apply Kd.Rn|apply Kd.Rw); exact HO654.out) hb); have n3_ := Az.mk (Kd.Rb (by (with_reducible repeat first|apply Kd.Ra|apply Kd.Rn|apply Kd.Rw); exact HO658.out) hb); have n4_ := Az.mk (bS (by repeat first|exact HB.out|apply bA|apply bN|apply bD) hb); clear HO646; clear HO650; clear HO654; clear HO658; clear HB; have HO646 := n0_; have HO650 := n1_; have HO654 := n2_; have HO658 := n3_; have HB := n4_; clear n0_ n1_ n2_ n3_ n4_; (try clear hb); (try clear hb2); (try clear hk); (try clear hi); obtain ⟨Ao36, co36, eo36⟩ := Kd.R_slice HO646.out; subst eo36; obtain ⟨Ao37, co37, eo37⟩ := Kd.R_slice HO650.out; subst eo37) | (go_at_call 39; (with_reducible refine (impl_EventsValid.calls a1 t661 _ (HLd.out.below (by repeat first|exact HB.out|apply bA|apply bN|apply bD)) A29.out).mono ?_); rintro e w38 ⟨rfl, hb⟩; have n0_ := Az.mk (Kd.Rb (by (with_reducible repeat first|apply Kd.Ra|apply Kd.Rn|apply Kd.Rw); exact HO646.out) hb); have n1_ := Az.mk (Kd.Rb (by (with_reducible repeat first|apply Kd.Ra|apply Kd.Rn|apply Kd.Rw); exact HO650.out) hb); have n2_ := Az.mk (Kd.Rb (by (with_reducible repeat first|apply Kd.Ra|apply Kd.Rn|apply Kd.Rw); exact HO654.out) hb); have n3_ := Az.mk (Kd.Rb (by (with_reducible repeat first|apply Kd.Ra|apply Kd.Rn|apply Kd.Rw); exact HO658.out) hb); have n4_ := Az.mk (bS (by repeat first|exact HB.out|apply bA|apply bN|apply bD) hb); clear HO646; clear HO650; clear HO654; clear HO658; clear HB; have HO646 := n0_; have HO650 := n1_; have HO654 := n2_; have HO658 := n3_; have HB := n4_; clear n0_ n1_ n2_ n3_ n4_; (try clear hb); (try clear hb2); (try clear hk); (try clear hi)) | (go_at_call 40; (with_reducible refine (spec_EventsValid.calls kj2 a1 t662 _ A30.out).mono ?_); rintro e w39 ⟨rfl, hb⟩; have n0_ := Az.mk (Kd.Rb (by (with_reducible repeat first|apply Kd.Ra|apply Kd.Rn|apply Kd.Rw); exact HO646.out) hb); have n1_ := Az.mk (Kd.Rb (by (with_reducible repeat first|apply Kd.Ra|apply Kd.Rn|apply Kd.Rw); exact HO650.out) hb); have n2_ := Az.mk (Kd.Rb (by (with_reducible repeat first|apply Kd.Ra|apply Kd.Rn|apply Kd.Rw); exact HO654.out) hb); have n3_ := Az.mk (Kd.Rb (by (with_reducible repeat first|apply Kd.Ra|apply Kd.Rn|apply Kd.Rw); exact HO658.out) hb); have n4_ := Az.mk (bS (by repeat first|exact HB.out|apply bA|apply bN|apply bD) hb); clear HO646; clear HO650; clear HO654; clear HO658; clear HB; have HO646 := n0_; have HO650 := n1_; have HO654 := n2_; have HO658 := n3_; have HB := n4_; clear n0_ n1_ n2_ n3_ n4_; (try clear hb); (try clear hb2); (try clear hk); (try clear hi)))
        repeat (go_quiet (first | (go_at_call 23; (with_reducible refine (laws_elSame.calls kj2 _ _ t651 _ _ t655 true _ ?side1 ?side2 ?side3 ?side4 A16.out).mono ?_); (case side1 => repeat (first | exact (Kd.R_reads' HO654.out).2.2 | (with_reducible refine Kd.C_alloc ?_ _) | (with_reducible refine Kd.C_drewN ?_ _) | (with_reducible refine Kd.C_drew ?_))); (case side2 => exact (Kd.R_reads' HO654.out).2.1); (case side3 => repeat (first | exact (Kd.R_reads' HO658.out).2.2 | (with_reducible refine Kd.C_alloc ?_ _) | (with_reducible refine Kd.C_drewN ?_ _) | (with_reducible refine Kd.C_drew ?_))); (case side4 => exact (Kd.R_reads' HO658.out).2.1); rintro e w34 ⟨rfl, hb⟩; have n0_ := Az.mk (Kd.Rb (by (with_reducible repeat first|apply Kd.Ra|apply Kd.Rn|apply Kd.Rw); exact HO646.out) hb); have n1_ := Az.mk (Kd.Rb (by (with_reducible repeat first|apply Kd.Ra|apply Kd.Rn|apply Kd.Rw); exact HO650.out) hb); have n2_ := Az.mk (Kd.Rb (by (with_reducible repeat first|apply Kd.Ra|apply Kd.Rn|apply Kd.Rw); exact HO654.out) hb); have n3_ := Az.mk (Kd.Rb (by (with_reducible repeat first|apply Kd.Ra|apply Kd.Rn|apply Kd.Rw); exact HO658.out) hb); have n4_ := Az.mk (bS (by repeat first|exact HB.out|apply bA|apply bN|apply bD) hb); clear HO646; clear HO650; clear HO654; clear HO658; clear HB; have HO646 := n0_; have HO650 := n1_; have HO654 := n2_; have HO658 := n3_; have HB := n4_; clear n0_ n1_ n2_ n3_ n4_; (try clear hb); (try clear hb2); (try clear hk); (try clear hi)) | (go_at_call 39; (with_reducible refine (impl_EventsValid.calls a0 t660 _ (HLd.out.below (by repeat first|exact HB.out|apply bA|apply bN|apply bD)) A22.out).mono ?_); rintro e w35 ⟨rfl, hb⟩; have n0_ := Az.mk (Kd.Rb (by (with_reducible repeat first|apply Kd.Ra|apply Kd.Rn|apply Kd.Rw); exact HO646.out) hb); have n1_ := Az.mk (Kd.Rb (by (with_reducible repeat first|apply Kd.Ra|apply Kd.Rn|apply Kd.Rw); exact HO650.out) hb); have n2_ := Az.mk (Kd.Rb (by (with_reducible repeat first|apply Kd.Ra|apply Kd.Rn|apply Kd.Rw); exact HO654.out) hb); have n3_ := Az.mk (Kd.Rb (by (with_reducible repeat first|apply Kd.Ra|apply Kd.Rn|apply Kd.Rw); exact HO658.out) hb); have n4_ := Az.mk (bS (by repeat first|exact HB.out|apply bA|apply bN|apply bD) hb); clear HO646; clear HO650; clear HO654; clear HO658; clear HB; have HO646 := n0_; have HO650 := n1_; have HO654 := n2_; have HO658 := n3_; have HB := n4_; clear n0_ n1_ n2_ n3_ n4_; (try clear hb); (try clear hb2); (try clear hk); (try clear hi); obtain ⟨Ao36, co36, eo36⟩ := Kd.R_slice HO646.out; subst eo36; obtain ⟨Ao37, co37, eo37⟩ := Kd.R_slice HO650.out; subst eo37) | (go_at_call 39; (with_reducible refine (impl_EventsValid.calls a1 t661 _ (HLd.out.below (by repeat first|exact HB.out|apply bA|apply bN|apply bD)) A29.out).mono ?_); rintro e w38 ⟨rfl, hb⟩; have n0_ := Az.mk (Kd.Rb (by (with_reducible repeat first|apply Kd.Ra|apply Kd.Rn|apply Kd.Rw); exact HO646.out) hb); have n1_ := Az.mk (Kd.Rb (by (with_reducible repeat first|apply Kd.Ra|apply Kd.Rn|apply Kd.Rw); exact HO650.out) hb); have n2_ := Az.mk (Kd.Rb (by (with_reducible repeat first|apply Kd.Ra|apply Kd.Rn|apply Kd.Rw); exact HO654.out) hb); have n3_ := Az.mk (Kd.Rb (by (with_reducible repeat first|apply Kd.Ra|apply Kd.Rn|apply Kd.Rw); exact HO658.out) hb); have n4_ := Az.mk (bS (by repeat first|exact HB.out|apply bA|apply bN|apply bD) hb); clear HO646; clear HO650; clear HO654; clear HO658; clear HB; have HO646 := n0_; have HO650 := n1_; have HO654 := n2_; have HO658 := n3_; have HB := n4_; clear n0_ n1_ n2_ n3_ n4_; (try clear hb); (try clear hb2); (try clear hk); (try clear hi)) | (go_at_call 40; (with_reducible refine (spec_EventsValid.calls kj2 a1 t662 _ A30.out).mono ?_); rintro e w39 ⟨rfl, hb⟩; have n0_ := Az.mk (Kd.Rb (by (with_reducible repeat first|apply Kd.Ra|apply Kd.Rn|apply Kd.Rw); exact HO646.out) hb); have n1_ := Az.mk (Kd.Rb (by (with_reducible repeat first|apply Kd.Ra|apply Kd.Rn|apply Kd.Rw); exact HO650.out) hb); have n2_ := Az.mk (Kd.Rb (by (with_reducible repeat first|apply Kd.Ra|apply Kd.Rn|apply Kd.Rw); exact HO654.out) hb); have n3_ := Az.mk (Kd.Rb (by (with_reducible repeat first|apply Kd.Ra|apply Kd.Rn|apply Kd.Rw); exact HO658.out) hb); have n4_ := Az.mk (bS (by repeat first|exact HB.out|apply bA|apply bN|apply bD) hb); clear HO646; clear HO650; clear HO654; clear HO658; clear HB; have HO646 := n0_; have HO650 := n1_; have HO654 := n2_; have HO658 := n3_; have HB := n4_; clear n0_ n1_ n2_ n3_ n4_; (try clear hb); (try clear hb2); (try clear hk); (try clear hi))); try go_wp2_with (first | (go_at_call 23; (with_reducible refine (laws_elSame.calls kj2 _ _ t651 _ _ t655 true _ ?side1 ?side2 ?side3 ?side4 A16.out).mono ?_); (case side1 => repeat (first | exact (Kd.R_reads' HO654.out).2.2 | (with_reducible refine Kd.C_alloc ?_ _) | (with_reducible refine Kd.C_drewN ?_ _) | (with_reducible refine Kd.C_drew ?_))); (case side2 => exact (Kd.R_reads' HO654.out).2.1); (case side3 => repeat (first | exact (Kd.R_reads' HO658.out).2.2 | (with_reducible refine Kd.C_alloc ?_ _) | (with_reducible refine Kd.C_drewN ?_ _) | (with_reducible refine Kd.C_drew ?_))); (case side4 => exact (Kd.R_reads' HO658.out).2.1); rintro e w34 ⟨rfl, hb⟩; have n0_ := Az.mk (Kd.Rb (by (with_reducible repeat first|apply Kd.Ra|apply Kd.Rn|apply Kd.Rw); exact HO646.out) hb); have n1_ := Az.mk (Kd.Rb (by (with_reducible repeat first|apply Kd.Ra|apply Kd.Rn|apply Kd.Rw); exact HO650.out) hb); have n2_ := Az.mk (Kd.Rb (by (with_reducible repeat first|apply Kd.Ra|apply Kd.Rn|apply Kd.Rw); exact HO654.out) hb); have n3_ := Az.mk (Kd.Rb (by (with_reducible repeat first|apply Kd.Ra|apply Kd.Rn|apply Kd.Rw); exact HO658.out) hb); have n4_ := Az.mk (bS (by repeat first|exact HB.out|apply bA|apply bN|apply bD) hb); clear HO646; clear HO650; clear HO654; clear HO658; clear HB; have HO646 := n0_; have HO650 := n1_; have HO654 := n2_; have HO658 := n3_; have HB := n4_; clear n0_ n1_ n2_ n3_ n4_; (try clear hb); (try clear hb2); (try clear hk); (try clear hi)) | (go_at_call 39; (with_reducible refine (impl_EventsValid.calls a0 t660 _ (HLd.out.below (by repeat first|exact HB.out|apply bA|apply bN|apply bD)) A22.out).mono ?_); rintro e w35 ⟨rfl, hb⟩; have n0_ := Az.mk (Kd.Rb (by (with_reducible repeat first|apply Kd.Ra|apply Kd.Rn|apply Kd.Rw); exact HO646.out) hb); have n1_ := Az.mk (Kd.Rb (by (with_reducible repeat first|apply Kd.Ra|apply Kd.Rn|apply Kd.Rw); exact HO650.out) hb); have n2_ := Az.mk (Kd.Rb (by (with_reducible repeat first|apply Kd.Ra|apply Kd.Rn|apply Kd.Rw); exact HO654.out) hb); have n3_ := Az.mk (Kd.Rb (by (with_reducible repeat first|apply Kd.Ra|apply Kd.Rn|apply Kd.Rw); exact HO658.out) hb); have n4_ := Az.mk (bS (by repeat first|exact HB.out|apply bA|apply bN|apply bD) hb); clear HO646; clear HO650; clear HO654; clear HO658; clear HB; have HO646 := n0_; have HO650 := n1_; have HO654 := n2_; have HO658 := n3_; have HB := n4_; clear n0_ n1_ n2_ n3_ n4_; (try clear hb); (try clear hb2); (try clear hk); (try clear hi); obtain ⟨Ao36, co36, eo36⟩ := Kd.R_slice HO646.out; subst eo36; obtain ⟨Ao37, co37, eo37⟩ := Kd.R_slice HO650.out; subst eo37) | (go_at_call 39; (with_reducible refine (impl_EventsValid.calls a1 t661 _ (HLd.out.below (by repeat first|exact HB.out|apply bA|apply bN|apply bD)) A29.out).mono ?_); rintro e w38 ⟨rfl, hb⟩; have n0_ := Az.mk (Kd.Rb (by (with_reducible repeat first|apply Kd.Ra|apply Kd.Rn|apply Kd.Rw); exact HO646.out) hb); have n1_ := Az.mk (Kd.Rb (by (with_reducible repeat first|apply Kd.Ra|apply Kd.Rn|apply Kd.Rw); exact HO650.out) hb); have n2_ := Az.mk (Kd.Rb (by (with_reducible repeat first|apply Kd.Ra|apply Kd.Rn|apply Kd.Rw); exact HO654.out) hb); have n3_ := Az.mk (Kd.Rb (by (with_reducible repeat first|apply Kd.Ra|apply Kd.Rn|apply Kd.Rw); exact HO658.out) hb); have n4_ := Az.mk (bS (by repeat first|exact HB.out|apply bA|apply bN|apply bD) hb); clear HO646; clear HO650; clear HO654; clear HO658; clear HB; have HO646 := n0_; have HO650 := n1_; have HO654 := n2_; have HO658 := n3_; have HB := n4_; clear n0_ n1_ n2_ n3_ n4_; (try clear hb); (try clear hb2); (try clear hk); (try clear hi)) | (go_at_call 40; (with_reducible refine (spec_EventsValid.calls kj2 a1 t662 _ A30.out).mono ?_); rintro e w39 ⟨rfl, hb⟩; have n0_ := Az.mk (Kd.Rb (by (with_reducible repeat first|apply Kd.Ra|apply Kd.Rn|apply Kd.Rw); exact HO646.out) hb); have n1_ := Az.mk (Kd.Rb (by (with_reducible repeat first|apply Kd.Ra|apply Kd.Rn|apply Kd.Rw); exact HO650.out) hb); have n2_ := Az.mk (Kd.Rb (by (with_reducible repeat first|apply Kd.Ra|apply Kd.Rn|apply Kd.Rw); exact HO654.out) hb); have n3_ := Az.mk (Kd.Rb (by (with_reducible repeat first|apply Kd.Ra|apply Kd.Rn|apply Kd.Rw); exact HO658.out) hb); have n4_ := Az.mk (bS (by repeat first|exact HB.out|apply bA|apply bN|apply bD) hb); clear HO646; clear HO650; clear HO654; clear HO658; clear HB; have HO646 := n0_; have HO650 := n1_; have HO654 := n2_; have HO658 := n3_; have HB := n4_; clear n0_ n1_ n2_ n3_ n4_; (try clear hb); (try clear hb2); (try clear hk); (try clear hi))))
        go_meet
        case rel => exact ⟨_, (true), (by first | rfl | (simp; done) | (simp [*]; done)), H', ⟨by have := HJ2.out; first | omega | exact Nat.le_refl _⟩, ⟨by (with_reducible repeat first|apply Kd.Ra|apply Kd.Rn|apply Kd.Rw); exact Kd.R_mono HO646.out (fun _ hk => hk.2)⟩, ⟨by (with_reducible repeat first|apply Kd.Ra|apply Kd.Rn|apply Kd.Rw); exact Kd.R_mono HO650.out (fun _ hk => hk.2)⟩, ⟨by (with_reducible repeat first|apply Kd.Ra|apply Kd.Rn|apply Kd.Rw); exact Kd.R_mono HO654.out (fun _ hk => hk.2)⟩, ⟨by (with_reducible repeat first|apply Kd.Ra|apply Kd.Rn|apply Kd.Rw); exact Kd.R_mono HO658.out (fun _ hk => hk.2)⟩, ⟨by repeat (first | (with_reducible first|exact HB.out|apply bA|apply bN|apply bD) | exact HB.out)⟩⟩
       ·rw [if_neg c31] at H
        have c31b0 : (t661 != t662) = false := by simpa using c31
        (try (have c31b1 : decide (t661 = t662) = true := by simpa using c31))
        (try (have c31b2 : (t661 == t662) = true := by simpa using c31))
        clear c31
        have H' := Az.mk H
        clear H
        obtain ⟨Ao40, co40, eo40⟩ := Kd.R_slice HO654.out
        subst eo40
        obtain ⟨Ao41, co41, eo41⟩ := Kd.R_slice HO658.out
        subst eo41
        go_wp2_with (first | (go_at_call 23; (with_reducible refine (laws_elSame.calls kj2 _ _ t651 _ _ t655 true _ ?side1 ?side2 ?side3 ?side4 A16.out).mono ?_); (case side1 => repeat (first | exact (Kd.R_reads' HO654.out).2.2 | (with_reducible refine Kd.C_alloc ?_ _) | (with_reducible refine Kd.C_drewN ?_ _) | (with_reducible refine Kd.C_drew ?_))); (case side2 => exact (Kd.R_reads' HO654.out).2.1); (case side3 => repeat (first | exact (Kd.R_reads' HO658.out).2.2 | (with_reducible refine Kd.C_alloc ?_ _) | (with_reducible refine Kd.C_drewN ?_ _) | (with_reducible refine Kd.C_drew ?_))); (case side4 => exact (Kd.R_reads' HO658.out).2.1); rintro e w42 ⟨rfl, hb⟩; have n0_ := Az.mk (Kd.Rb (by (with_reducible repeat first|apply Kd.Ra|apply Kd.Rn|apply Kd.Rw); exact HO646.out) hb); have n1_ := Az.mk (Kd.Rb (by (with_reducible repeat first|apply Kd.Ra|apply Kd.Rn|apply Kd.Rw); exact HO650.out) hb); have n2_ := Az.mk (Kd.Rb (by (with_reducible repeat first|apply Kd.Ra|apply Kd.Rn|apply Kd.Rw); exact HO654.out) hb); have n3_ := Az.mk (Kd.Rb (by (with_reducible repeat first|apply Kd.Ra|apply Kd.Rn|apply Kd.Rw); exact HO658.out) hb); have n4_ := Az.mk (bS (by repeat first|exact HB.out|apply bA|apply bN|apply bD) hb); clear HO646; clear HO650; clear HO654; clear HO658; clear HB; have HO646 := n0_; have HO650 := n1_; have HO654 := n2_; have HO658 := n3_; have HB := n4_; clear n0_ n1_ n2_ n3_ n4_; (try clear hb); (try clear hb2); (try clear hk); (try clear hi)) | (go_at_call 39; (with_reducible refine (impl_EventsValid.calls a0 t660 _ (HLd.out.below (by repeat first|exact HB.out|apply bA|apply bN|apply bD)) A22.out).mono ?_); rintro e w43 ⟨rfl, hb⟩; have n0_ := Az.mk (Kd.Rb (by (with_reducible repeat first|apply Kd.Ra|apply Kd.Rn|apply Kd.Rw); exact HO646.out) hb); have n1_ := Az.mk (Kd.Rb (by (with_reducible repeat first|apply Kd.Ra|apply Kd.Rn|apply Kd.Rw); exact HO650.out) hb); have n2_ := Az.mk (Kd.Rb (by (with_reducible repeat first|apply Kd.Ra|apply Kd.Rn|apply Kd.Rw); exact HO654.out) hb); have n3_ := Az.mk (Kd.Rb (by (with_reducible repeat first|apply Kd.Ra|apply Kd.Rn|apply Kd.Rw); exact HO658.out) hb); have n4_ := Az.mk (bS (by repeat first|exact HB.out|apply bA|apply bN|apply bD) hb); clear HO646; clear HO650; clear HO654; clear HO658; clear HB; have HO646 := n0_; have HO650 := n1_; have HO654 := n2_; have HO658 := n3_; have HB := n4_; clear n0_ n1_ n2_ n3_ n4_; (try clear hb); (try clear hb2); (try clear hk); (try clear hi); obtain ⟨Ao44, co44, eo44⟩ := Kd.R_slice HO646.out; subst eo44; obtain ⟨Ao45, co45, eo45⟩ := Kd.R_slice HO650.out; subst eo45) | (go_at_call 39; (with_reducible refine (impl_EventsValid.calls a1 t661 _ (HLd.out.below (by repeat first|exact HB.out|apply bA|apply bN|apply bD)) A29.out).mono ?_); rintro e w46 ⟨rfl, hb⟩; have n0_ := Az.mk (Kd.Rb (by (with_reducible repeat first|apply Kd.Ra|apply Kd.Rn|apply Kd.Rw); exact HO646.out) hb); have n1_ := Az.mk (Kd.Rb (by (with_reducible repeat first|apply Kd.Ra|apply Kd.Rn|apply Kd.Rw); exact HO650.out) hb); have n2_ := Az.mk (Kd.Rb (by (with_reducible repeat first|apply Kd.Ra|apply Kd.Rn|apply Kd.Rw); exact HO654.out) hb); have n3_ := Az.mk (Kd.Rb (by (with_reducible repeat first|apply Kd.Ra|apply Kd.Rn|apply Kd.Rw); exact HO658.out) hb); have n4_ := Az.mk (bS (by repeat first|exact HB.out|apply bA|apply bN|apply bD) hb); clear HO646; clear HO650; clear HO654; clear HO658; clear HB; have HO646 := n0_; have HO650 := n1_; have HO654 := n2_; have HO658 := n3_; have HB := n4_; clear n0_ n1_ n2_ n3_ n4_; (try clear hb); (try clear hb2); (try clear hk); (try clear hi)) | (go_at_call 40; (with_reducible refine (spec_EventsValid.calls kj2 a1 t662 _ A30.out).mono ?_); rintro e w47 ⟨rfl, hb⟩; have n0_ := Az.mk (Kd.Rb (by (with_reducible repeat first|apply Kd.Ra|apply Kd.Rn|apply Kd.Rw); exact HO646.out) hb); have n1_ := Az.mk (Kd.Rb (by (with_reducible repeat first|apply Kd.Ra|apply Kd.Rn|apply Kd.Rw); exact HO650.out) hb); have n2_ := Az.mk (Kd.Rb (by (with_reducible repeat first|apply Kd.Ra|apply Kd.Rn|apply Kd.Rw); exact HO654.out) hb); have n3_ := Az.mk (Kd.Rb (by (with_reducible repeat first|apply Kd.Ra|apply Kd.Rn|apply Kd.Rw); exact HO658.out) hb); have n4_ := Az.mk (bS (by repeat first|exact HB.out|apply bA|apply bN|apply bD) hb); clear HO646; clear HO650; clear HO654; clear HO658; clear HB; have HO646 := n0_; have HO650 := n1_; have HO654 := n2_; have HO658 := n3_; have HB := n4_; clear n0_ n1_ n2_ n3_ n4_; (try clear hb); (try clear hb2); (try clear hk); (try clear hi)))
        repeat (go_quiet (first | (go_at_call 23; (with_reducible refine (laws_elSame.calls kj2 _ _ t651 _ _ t655 true _ ?side1 ?side2 ?side3 ?side4 A16.out).mono ?_); (case side1 => repeat (first | exact (Kd.R_reads' HO654.out).2.2 | (with_reducible refine Kd.C_alloc ?_ _) | (with_reducible refine Kd.C_drewN ?_ _) | (with_reducible refine Kd.C_drew ?_))); (case side2 => exact (Kd.R_reads' HO654.out).2.1); (case side3 => repeat (first | exact (Kd.R_reads' HO658.out).2.2 | (with_reducible refine Kd.C_alloc ?_ _) | (with_reducible refine Kd.C_drewN ?_ _) | (with_reducible refine Kd.C_drew ?_))); (case side4 => exact (Kd.R_reads' HO658.out).2.1); rintro e w42 ⟨rfl, hb⟩; have n0_ := Az.mk (Kd.Rb (by (with_reducible repeat first|apply Kd.Ra|apply Kd.Rn|apply Kd.Rw); exact HO646.out) hb); have n1_ := Az.mk (Kd.Rb (by (with_reducible repeat first|apply Kd.Ra|apply Kd.Rn|apply Kd.Rw); exact HO650.out) hb); have n2_ := Az.mk (Kd.Rb (by (with_reducible repeat first|apply Kd.Ra|apply Kd.Rn|apply Kd.Rw); exact HO654.out) hb); have n3_ := Az.mk (Kd.Rb (by (with_reducible repeat first|apply Kd.Ra|apply Kd.Rn|apply Kd.Rw); exact HO658.out) hb); have n4_ := Az.mk (bS (by repeat first|exact HB.out|apply bA|apply bN|apply bD) hb); clear HO646; clear HO650; clear HO654; clear HO658; clear HB; have HO646 := n0_; have HO650 := n1_; have HO654 := n2_; have HO658 := n3_; have HB := n4_; clear n0_ n1_ n2_ n3_ n4_; (try clear hb); (try clear hb2); (try clear hk); (try clear hi)) | (go_at_call 39; (with_reducible refine (impl_EventsValid.calls a0 t660 _ (HLd.out.below (by repeat first|exact HB.out|apply bA|apply bN|apply bD)) A22.out).mono ?_); rintro e w43 ⟨rfl, hb⟩; have n0_ := Az.mk (Kd.Rb (by (with_reducible repeat first|apply Kd.Ra|apply Kd.Rn|apply Kd.Rw); exact HO646.out) hb); have n1_ := Az.mk (Kd.Rb (by (with_reducible repeat first|apply Kd.Ra|apply Kd.Rn|apply Kd.Rw); exact HO650.out) hb); have n2_ := Az.mk (Kd.Rb (by (with_reducible repeat first|apply Kd.Ra|apply Kd.Rn|apply Kd.Rw); exact HO654.out) hb); have n3_ := Az.mk (Kd.Rb (by (with_reducible repeat first|apply Kd.Ra|apply Kd.Rn|apply Kd.Rw); exact HO658.out) hb); have n4_ := Az.mk (bS (by repeat first|exact HB.out|apply bA|apply bN|apply bD) hb); clear HO646; clear HO650; clear HO654; clear HO658; clear HB; have HO646 := n0_; have HO650 := n1_; have HO654 := n2_; have HO658 := n3_; have HB := n4_; clear n0_ n1_ n2_ n3_ n4_; (try clear hb); (try clear hb2); (try clear hk); (try clear hi); obtain ⟨Ao44, co44, eo44⟩ := Kd.R_slice HO646.out; subst eo44; obtain ⟨Ao45, co45, eo45⟩ := Kd.R_slice HO650.out; subst eo45) | (go_at_call 39; (with_reducible refine (impl_EventsValid.calls a1 t661 _ (HLd.out.below (by repeat first|exact HB.out|apply bA|apply bN|apply bD)) A29.out).mono ?_); rintro e w46 ⟨rfl, hb⟩; have n0_ := Az.mk (Kd.Rb (by (with_reducible repeat first|apply Kd.Ra|apply Kd.Rn|apply Kd.Rw); exact HO646.out) hb); have n1_ := Az.mk (Kd.Rb (by (with_reducible repeat first|apply Kd.Ra|apply Kd.Rn|apply Kd.Rw); exact HO650.out) hb); have n2_ := Az.mk (Kd.Rb (by (with_reducible repeat first|apply Kd.Ra|apply Kd.Rn|apply Kd.Rw); exact HO654.out) hb); have n3_ := Az.mk (Kd.Rb (by (with_reducible repeat first|apply Kd.Ra|apply Kd.Rn|apply Kd.Rw); exact HO658.out) hb); have n4_ := Az.mk (bS (by repeat first|exact HB.out|apply bA|apply bN|apply bD) hb); clear HO646; clear HO650; clear HO654; clear HO658; clear HB; have HO646 := n0_; have HO650 := n1_; have HO654 := n2_; have HO658 := n3_; have HB := n4_; clear n0_ n1_ n2_ n3_ n4_; (try clear hb); (try clear hb2); (try clear hk); (try clear hi)) | (go_at_call 40; (with_reducible refine (spec_EventsValid.calls kj2 a1 t662 _ A30.out).mono ?_); rintro e w47 ⟨rfl, hb⟩; have n0_ := Az.mk (Kd.Rb (by (with_reducible repeat first|apply Kd.Ra|apply Kd.Rn|apply Kd.Rw); exact HO646.out) hb); have n1_ := Az.mk (Kd.Rb (by (with_reducible repeat first|apply Kd.Ra|apply Kd.Rn|apply Kd.Rw); exact HO650.out) hb); have n2_ := Az.mk (Kd.Rb (by (with_reducible repeat first|apply Kd.Ra|apply Kd.Rn|apply Kd.Rw); exact HO654.out) hb); have n3_ := Az.mk (Kd.Rb (by (with_reducible repeat first|apply Kd.Ra|apply Kd.Rn|apply Kd.Rw); exact HO658.out) hb); have n4_ := Az.mk (bS (by repeat first|exact HB.out|apply bA|apply bN|apply bD) hb); clear HO646; clear HO650; clear HO654; clear HO658; clear HB; have HO646 := n0_; have HO650 := n1_; have HO654 := n2_; have HO658 := n3_; have HB := n4_; clear n0_ n1_ n2_ n3_ n4_; (try clear hb); (try clear hb2); (try clear hk); (try clear hi))); try go_wp2_with (first | (go_at_call 23; (with_reducible refine (laws_elSame.calls kj2 _ _ t651 _ _ t655 true _ ?side1 ?side2 ?side3 ?side4 A16.out).mono ?_); (case side1 => repeat (first | exact (Kd.R_reads' HO654.out).2.2 | (with_reducible refine Kd.C_alloc ?_ _) | (with_reducible refine Kd.C_drewN ?_ _) | (with_reducible refine Kd.C_drew ?_))); (case side2 => exact (Kd.R_reads' HO654.out).2.1); (case side3 => repeat (first | exact (Kd.R_reads' HO658.out).2.2 | (with_reducible refine Kd.C_alloc ?_ _) | (with_reducible refine Kd.C_drewN ?_ _) | (with_reducible refine Kd.C_drew ?_))); (case side4 => exact (Kd.R_reads' HO658.out).2.1); rintro e w42 ⟨rfl, hb⟩; have n0_ := Az.mk (Kd.Rb (by (with_reducible repeat first|apply Kd.Ra|apply Kd.Rn|apply Kd.Rw); exact HO646.out) hb); have n1_ := Az.mk (Kd.Rb (by (with_reducible repeat first|apply Kd.Ra|apply Kd.Rn|apply Kd.Rw); exact HO650.out) hb); have n2_ := Az.mk (Kd.Rb (by (with_reducible repeat first|apply Kd.Ra|apply Kd.Rn|apply Kd.Rw); exact HO654.out) hb); have n3_ := Az.mk (Kd.Rb (by (with_reducible repeat first|apply Kd.Ra|apply Kd.Rn|apply Kd.Rw); exact HO658.out) hb); have n4_ := Az.mk (bS (by repeat first|exact HB.out|apply bA|apply bN|apply bD) hb); clear HO646; clear HO650; clear HO654; clear HO658; clear HB; have HO646 := n0_; have HO650 := n1_; have HO654 := n2_; have HO658 := n3_; have HB := n4_; clear n0_ n1_ n2_ n3_ n4_; (try clear hb); (try clear hb2); (try clear hk); (try clear hi)) | (go_at_call 39; (with_reducible refine (impl_EventsValid.calls a0 t660 _ (HLd.out.below (by repeat first|exact HB.out|apply bA|apply bN|apply bD)) A22.out).mono ?_); rintro e w43 ⟨rfl, hb⟩; have n0_ := Az.mk (Kd.Rb (by (with_reducible repeat first|apply Kd.Ra|apply Kd.Rn|apply Kd.Rw); exact HO646.out) hb); have n1_ := Az.mk (Kd.Rb (by (with_reducible repeat first|apply Kd.Ra|apply Kd.Rn|apply Kd.Rw); exact HO650.out) hb); have n2_ := Az.mk (Kd.Rb (by (with_reducible repeat first|apply Kd.Ra|apply Kd.Rn|apply Kd.Rw); exact HO654.out) hb); have n3_ := Az.mk (Kd.Rb (by (with_reducible repeat first|apply Kd.Ra|apply Kd.Rn|apply Kd.Rw); exact HO658.out) hb); have n4_ := Az.mk (bS (by repeat first|exact HB.out|apply bA|apply bN|apply bD) hb); clear HO646; clear HO650; clear HO654; clear HO658; clear HB; have HO646 := n0_; have HO650 := n1_; have HO654 := n2_; have HO658 := n3_; have HB := n4_; clear n0_ n1_ n2_ n3_ n4_; (try clear hb); (try clear hb2); (try clear hk); (try clear hi); obtain ⟨Ao44, co44, eo44⟩ := Kd.R_slice HO646.out; subst eo44; obtain ⟨Ao45, co45, eo45⟩ := Kd.R_slice HO650.out; subst eo45) | (go_at_call 39; (with_reducible refine (impl_EventsValid.calls a1 t661 _ (HLd.out.below (by repeat first|exact HB.out|apply bA|apply bN|apply bD)) A29.out).mono ?_); rintro e w46 ⟨rfl, hb⟩; have n0_ := Az.mk (Kd.Rb (by (with_reducible repeat first|apply Kd.Ra|apply Kd.Rn|apply Kd.Rw); exact HO646.out) hb); have n1_ := Az.mk (Kd.Rb (by (with_reducible repeat first|apply Kd.Ra|apply Kd.Rn|apply Kd.Rw); exact HO650.out) hb); have n2_ := Az.mk (Kd.Rb (by (with_reducible repeat first|apply Kd.Ra|apply Kd.Rn|apply Kd.Rw); exact HO654.out) hb); have n3_ := Az.mk (Kd.Rb (by (with_reducible repeat first|apply Kd.Ra|apply Kd.Rn|apply Kd.Rw); exact HO658.out) hb); have n4_ := Az.mk (bS (by repeat first|exact HB.out|apply bA|apply bN|apply bD) hb); clear HO646; clear HO650; clear HO654; clear HO658; clear HB; have HO646 := n0_; have HO650 := n1_; have HO654 := n2_; have HO658 := n3_; have HB := n4_; clear n0_ n1_ n2_ n3_ n4_; (try clear hb); (try clear hb2); (try clear hk); (try clear hi)) | (go_at_call 40; (with_reducible refine (spec_EventsValid.calls kj2 a1 t662 _ A30.out).mono ?_); rintro e w47 ⟨rfl, hb⟩; have n0_ := Az.mk (Kd.Rb (by (with_reducible repeat first|apply Kd.Ra|apply Kd.Rn|apply Kd.Rw); exact HO646.out) hb); have n1_ := Az.mk (Kd.Rb (by (with_reducible repeat first|apply Kd.Ra|apply Kd.Rn|apply Kd.Rw); exact HO650.out) hb); have n2_ := Az.mk (Kd.Rb (by (with_reducible repeat first|apply Kd.Ra|apply Kd.Rn|apply Kd.Rw); exact HO654.out) hb); have n3_ := Az.mk (Kd.Rb (by (with_reducible repeat first|apply Kd.Ra|apply Kd.Rn|apply Kd.Rw); exact HO658.out) hb); have n4_ := Az.mk (bS (by repeat first|exact HB.out|apply bA|apply bN|apply bD) hb); clear HO646; clear HO650; clear HO654; clear HO658; clear HB; have HO646 := n0_; have HO650 := n1_; have HO654 := n2_; have HO658 := n3_; have HB := n4_; clear n0_ n1_ n2_ n3_ n4_; (try clear hb); (try clear hb2); (try clear hk); (try clear hi))))
        go_meet
        case rel => exact ⟨_, (!t644), (by first | rfl | (simp; done) | (simp [*]; done)), H', ⟨by have := HJ2.out; first | omega | exact Nat.le_refl _⟩, ⟨by (with_reducible repeat first|apply Kd.Ra|apply Kd.Rn|apply Kd.Rw); exact Kd.R_mono HO646.out (fun _ hk => hk.2)⟩, ⟨by (with_reducible repeat first|apply Kd.Ra|apply Kd.Rn|apply Kd.Rw); exact Kd.R_mono HO650.out (fun _ hk => hk.2)⟩, ⟨by (with_reducible repeat first|apply Kd.Ra|apply Kd.Rn|apply Kd.Rw); exact Kd.R_mono HO654.out (fun _ hk => hk.2)⟩, ⟨by (with_reducible repeat first|apply Kd.Ra|apply Kd.Rn|apply Kd.Rw); exact Kd.R_mono HO658.out (fun _ hk => hk.2)⟩, ⟨by repeat (first | (with_reducible first|exact HB.out|apply bA|apply bN|apply bD) | exact HB.out)⟩⟩
      ·rw [if_neg c28] at H
       have c28b0 : ((t643.length : Int) == (t647.length : Int)) = false := beq_eq_false_iff_ne.mpr c28
       have c28b1 : ((t643.length : Int) != (t647.length : Int)) = true := bne_iff_ne.mpr c28
       have c28b2 : (t643.length == t647.length) = false := by first | simpa using c28 | (simp at c28 ⊢; omega)
       have H' := Az.mk H
       clear H
       obtain ⟨Ao48, co48, eo48⟩ := Kd.R_slice HO654.out
       subst eo48
       obtain ⟨Ao49, co49, eo49⟩ := Kd.R_slice HO658.out
       subst eo49
       go_wp2_with (first | (go_at_call 23; (with_reducible refine (laws_elSame.calls kj2 _ _ t651 _ _ t655 true _ ?side1 ?side2 ?side3 ?side4 A16.out).mono ?_); (case side1 => repeat (first | exact (Kd.R_reads' HO654.out).2.2 | (with_reducible refine Kd.C_alloc ?_ _) | (with_reducible refine Kd.C_drewN ?_ _) | (with_reducible refine Kd.C_drew ?_))); (case side2 => exact (Kd.R_reads' HO654.out).2.1); (case side3 => repeat (first | exact (Kd.R_reads' HO658.out).2.2 | (with_reducible refine Kd.C_alloc ?_ _) | (with_reducible refine Kd.C_drewN ?_ _) | (with_reducible refine Kd.C_drew ?_))); (case side4 => exact (Kd.R_reads' HO658.out).2.1); rintro e w50 ⟨rfl, hb⟩; have n0_ := Az.mk (Kd.Rb (by (with_reducible repeat first|apply Kd.Ra|apply Kd.Rn|apply Kd.Rw); exact HO646.out) hb); have n1_ := Az.mk (Kd.Rb (by (with_reducible repeat first|apply Kd.Ra|apply Kd.Rn|apply Kd.Rw); exact HO650.out) hb); have n2_ := Az.mk (Kd.Rb (by (with_reducible repeat first|apply Kd.Ra|apply Kd.Rn|apply Kd.Rw); exact HO654.out) hb); have n3_ := Az.mk (Kd.Rb (by (with_reducible repeat first|apply Kd.Ra|apply Kd.Rn|apply Kd.Rw); exact HO658.out) hb); have n4_ := Az.mk (bS (by repeat first|exact HB.out|apply bA|apply bN|apply bD) hb); clear HO646; clear HO650; clear HO654; clear HO658; clear HB; have HO646 := n0_; have HO650 := n1_; have HO654 := n2_; have HO658 := n3_; have HB := n4_; clear n0_ n1_ n2_ n3_ n4_; (try clear hb); (try clear hb2); (try clear hk); (try clear hi)) | (go_at_call 39; (with_reducible refine (impl_EventsValid.calls a0 t660 _ (HLd.out.below (by repeat first|exact HB.out|apply bA|apply bN|apply bD)) A22.out).mono ?_); rintro e w51 ⟨rfl, hb⟩; have n0_ := Az.mk (Kd.Rb (by (with_reducible repeat first|apply Kd.Ra|apply Kd.Rn|apply Kd.Rw); exact HO646.out) hb); have n1_ := Az.mk (Kd.Rb (by (with_reducible repeat first|apply Kd.Ra|apply Kd.Rn|apply Kd.Rw); exact HO650.out) hb); have n2_ := Az.mk (Kd.Rb (by (with_reducible repeat first|apply Kd.Ra|apply Kd.Rn|apply Kd.Rw); exact HO654.out) hb); have n3_ := Az.mk (Kd.Rb (by (with_reducible repeat first|apply Kd.Ra|apply Kd.Rn|apply Kd.Rw); exact HO658.out) hb); have n4_ := Az.mk (bS (by repeat first|exact HB.out|apply bA|apply bN|apply bD) hb); clear HO646; clear HO650; clear HO654; clear HO658; clear HB; have HO646 := n0_; have HO650 := n1_; have HO654 := n2_; have HO658 := n3_; have HB := n4_; clear n0_ n1_ n2_ n3_ n4_; (try clear hb); (try clear hb2); (try clear hk); (try clear hi); obtain ⟨Ao52, co52, eo52⟩ := Kd.R_slice HO646.out; subst eo52; obtain ⟨Ao53, co53, eo53⟩ := Kd.R_slice HO650.out; subst eo53))
       repeat (go_quiet (first | (go_at_call 23; (with_reducible refine (laws_elSame.calls kj2 _ _ t651 _ _ t655 true _ ?side1 ?side2 ?side3 ?side4 A16.out).mono ?_); (case side1 => repeat (first | exact (Kd.R_reads' HO654.out).2.2 | (with_reducible refine Kd.C_alloc ?_ _) | (with_reducible refine Kd.C_drewN ?_ _) | (with_reducible refine Kd.C_drew ?_))); (case side2 => exact (Kd.R_reads' HO654.out).2.1); (case side3 => repeat (first | exact (Kd.R_reads' HO658.out).2.2 | (with_reducible refine Kd.C_alloc ?_ _) | (with_reducible refine Kd.C_drewN ?_ _) | (with_reducible refine Kd.C_drew ?_))); (case side4 => exact (Kd.R_reads' HO658.out).2.1); rintro e w50 ⟨rfl, hb⟩; have n0_ := Az.mk (Kd.Rb (by (with_reducible repeat first|apply Kd.Ra|apply Kd.Rn|apply Kd.Rw); exact HO646.out) hb); have n1_ := Az.mk (Kd.Rb (by (with_reducible repeat first|apply Kd.Ra|apply Kd.Rn|apply Kd.Rw); exact HO650.out) hb); have n2_ := Az.mk (Kd.Rb (by (with_reducible repeat first|apply Kd.Ra|apply Kd.Rn|apply Kd.Rw); exact HO654.out) hb); have n3_ := Az.mk (Kd.Rb (by (with_reducible repeat first|apply Kd.Ra|apply Kd.Rn|apply Kd.Rw); exact HO658.out) hb); have n4_ := Az.mk (bS (by repeat first|exact HB.out|apply bA|apply bN|apply bD) hb); clear HO646; clear HO650; clear HO654; clear HO658; clear HB; have HO646 := n0_; have HO650 := n1_; have HO654 := n2_; have HO658 := n3_; have HB := n4_; clear n0_ n1_ n2_ n3_ n4_; (try clear hb); (try clear hb2); (try clear hk); (try clear hi)) | (go_at_call 39; (with_reducible refine (impl_EventsValid.calls a0 t660 _ (HLd.out.below (by repeat first|exact HB.out|apply bA|apply bN|apply bD)) A22.out).mono ?_); rintro e w51 ⟨rfl, hb⟩; have n0_ := Az.mk (Kd.Rb (by (with_reducible repeat first|apply Kd.Ra|apply Kd.Rn|apply Kd.Rw); exact HO646.out) hb); have n1_ := Az.mk (Kd.Rb (by (with_reducible repeat first|apply Kd.Ra|apply Kd.Rn|apply Kd.Rw); exact HO650.out) hb); have n2_ := Az.mk (Kd.Rb (by (with_reducible repeat first|apply Kd.Ra|apply Kd.Rn|apply Kd.Rw); exact HO654.out) hb); have n3_ := Az.mk (Kd.Rb (by (with_reducible repeat first|apply Kd.Ra|apply Kd.Rn|apply Kd.Rw); exact HO658.out) hb); have n4_ := Az.mk (bS (by repeat first|exact HB.out|apply bA|apply bN|apply bD) hb); clear HO646; clear HO650; clear HO654; clear HO658; clear HB; have HO646 := n0_; have HO650 := n1_; have HO654 := n2_; have HO658 := n3_; have HB := n4_; clear n0_ n1_ n2_ n3_ n4_; (try clear hb); (try clear hb2); (try clear hk); (try clear hi); obtain ⟨Ao52, co52, eo52⟩ := Kd.R_slice HO646.out; subst eo52; obtain ⟨Ao53, co53, eo53⟩ := Kd.R_slice HO650.out; subst eo53)); try go_wp2_with (first | (go_at_call 23; (with_reducible refine (laws_elSame.calls kj2 _ _ t651 _ _ t655 true _ ?side1 ?side2 ?side3 ?side4 A16.out).mono ?_); (case side1 => repeat (first | exact (Kd.R_reads' HO654.out).2.2 | (with_reducible refine Kd.C_alloc ?_ _) | (with_reducible refine Kd.C_drewN ?_ _) | (with_reducible refine Kd.C_drew ?_))); (case side2 => exact (Kd.R_reads' HO654.out).2.1); (case side3 => repeat (first | exact (Kd.R_reads' HO658.out).2.2 | (with_reducible refine Kd.C_alloc ?_ _) | (with_reducible refine Kd.C_drewN ?_ _) | (with_reducible refine Kd.C_drew ?_))); (case side4 => exact (Kd.R_reads' HO658.out).2.1); rintro e w50 ⟨rfl, hb⟩; have n0_ := Az.mk (Kd.Rb (by (with_reducible repeat first|apply Kd.Ra|apply Kd.Rn|apply Kd.Rw); exact HO646.out) hb); have n1_ := Az.mk (Kd.Rb (by (with_reducible repeat first|apply Kd.Ra|apply Kd.Rn|apply Kd.Rw); exact HO650.out) hb); have n2_ := Az.mk (Kd.Rb (by (with_reducible repeat first|apply Kd.Ra|apply Kd.Rn|apply Kd.Rw); exact HO654.out) hb); have n3_ := Az.mk (Kd.Rb (by (with_reducible repeat first|apply Kd.Ra|apply Kd.Rn|apply Kd.Rw); exact HO658.out) hb); have n4_ := Az.mk (bS (by repeat first|exact HB.out|apply bA|apply bN|apply bD) hb); clear HO646; clear HO650; clear HO654; clear HO658; clear HB; have HO646 := n0_; have HO650 := n1_; have HO654 := n2_; have HO658 := n3_; have HB := n4_; clear n0_ n1_ n2_ n3_ n4_; (try clear hb); (try clear hb2); (try clear hk); (try clear hi)) | (go_at_call 39; (with_reducible refine (impl_EventsValid.calls a0 t660 _ (HLd.out.below (by repeat first|exact HB.out|apply bA|apply bN|apply bD)) A22.out).mono ?_); rintro e w51 ⟨rfl, hb⟩; have n0_ := Az.mk (Kd.Rb (by (with_reducible repeat first|apply Kd.Ra|apply Kd.Rn|apply Kd.Rw); exact HO646.out) hb); have n1_ := Az.mk (Kd.Rb (by (with_reducible repeat first|apply Kd.Ra|apply Kd.Rn|apply Kd.Rw); exact HO650.out) hb); have n2_ := Az.mk (Kd.Rb (by (with_reducible repeat first|apply Kd.Ra|apply Kd.Rn|apply Kd.Rw); exact HO654.out) hb); have n3_ := Az.mk (Kd.Rb (by (with_reducible repeat first|apply Kd.Ra|apply Kd.Rn|apply Kd.Rw); exact HO658.out) hb); have n4_ := Az.mk (bS (by repeat first|exact HB.out|apply bA|apply bN|apply bD) hb); clear HO646; clear HO650; clear HO654; clear HO658; clear HB; have HO646 := n0_; have HO650 := n1_; have HO654 := n2_; have HO658 := n3_; have HB := n4_; clear n0_ n1_ n2_ n3_ n4_; (try clear hb); (try clear hb2); (try clear hk); (try clear hi); obtain ⟨Ao52, co52, eo52⟩ := Kd.R_slice HO646.out; subst eo52; obtain ⟨Ao53, co53, eo53⟩ := Kd.R_slice HO650.out; subst eo53)))
       go_meet
       case rel => exact ⟨_, (true), (by first | rfl | (simp; done) | (simp [*]; done)), H', ⟨by have := HJ2.out; first | omega | exact Nat.le_refl _⟩, ⟨by (with_reducible repeat first|apply Kd.Ra|apply Kd.Rn|apply Kd.Rw); exact Kd.R_mono HO646.out (fun _ hk => hk.2)⟩, ⟨by (with_reducible repeat first|apply Kd.Ra|apply Kd.Rn|apply Kd.Rw); exact Kd.R_mono HO650.out (fun _ hk => hk.2)⟩, ⟨by (with_reducible repeat first|apply Kd.Ra|apply Kd.Rn|apply Kd.Rw); exact Kd.R_mono HO654.out (fun _ hk => hk.2)⟩, ⟨by (with_reducible repeat first|apply Kd.Ra|apply Kd.Rn|apply Kd.Rw); exact Kd.R_mono HO658.out (fun _ hk => hk.2)⟩, ⟨by repeat (first | (with_reducible first|exact HB.out|apply bA|apply bN|apply bD) | exact HB.out)⟩⟩
   ·replace c17 := Bool.eq_false_iff.mpr c17
    subst c17
    have H1 : (laws_FnLives.j1 kj2 a0 t643 t644 t647 t648 t651 t652 t655 a1 true) = some r := by rw [if_neg (show ¬ (false = true) by decide)] at H; exact H
    clear H
    have H := H1
    clear H1
    have H' := Az.mk H
    clear H
    obtain ⟨Ao54, co54, eo54⟩ := Kd.R_slice HO654.out
    subst eo54
    obtain ⟨Ao55, co55, eo55⟩ := Kd.R_slice HO658.out
    subst eo55
    go_wp2_with (first | (go_at_call 23; (with_reducible refine (laws_elSame.calls kj2 _ _ t651 _ _ t655 false _ ?side1 ?side2 ?side3 ?side4 A16.out).mono ?_); (case side1 => repeat (first | exact (Kd.R_reads' HO654.out).2.2 | (with_reducible refine Kd.C_alloc ?_ _) | (with_reducible refine Kd.C_drewN ?_ _) | (with_reducible refine Kd.C_drew ?_))); (case side2 => exact (Kd.R_reads' HO654.out).2.1); (case side3 => repeat (first | exact (Kd.R_reads' HO658.out).2.2 | (with_reducible refine Kd.C_alloc ?_ _) | (with_reducible refine Kd.C_drewN ?_ _) | (with_reducible refine Kd.C_drew ?_))); (case side4 => exact (Kd.R_reads' HO658.out).2.1); rintro e w56 ⟨rfl, hb⟩; have n0_ := Az.mk (Kd.Rb (by (with_reducible repeat first|apply Kd.Ra|apply Kd.Rn|apply Kd.Rw); exact HO646.out) hb); have n1_ := Az.mk (Kd.Rb (by (with_reducible repeat first|apply Kd.Ra|apply Kd.Rn|apply Kd.Rw); exact HO650.out) hb); have n2_ := Az.mk (Kd.Rb (by (with_reducible repeat first|apply Kd.Ra|apply Kd.Rn|apply Kd.Rw); exact HO654.out) hb); have n3_ := Az.mk (Kd.Rb (by (with_reducible repeat first|apply Kd.Ra|apply Kd.Rn|apply Kd.Rw); exact HO658.out) hb); have n4_ := Az.mk (bS (by repeat first|exact HB.out|apply bA|apply bN|apply bD) hb); clear HO646; clear HO650; clear HO654; clear HO658; clear HB; have HO646 := n0_; have HO650 := n1_; have HO654 := n2_; have HO658 := n3_; have HB := n4_; clear n0_ n1_ n2_ n3_ n4_; (try clear hb); (try clear hb2); (try clear hk); (try clear hi)))
    repeat (go_quiet (first | (go_at_call 23; (with_reducible refine (laws_elSame.calls kj2 _ _ t651 _ _ t655 false _ ?side1 ?side2 ?side3 ?side4 A16.out).mono ?_); (case side1 => repeat (first | exact (Kd.R_reads' HO654.out).2.2 | (with_reducible refine Kd.C_alloc ?_ _) | (with_reducible refine Kd.C_drewN ?_ _) | (with_reducible refine Kd.C_drew ?_))); (case side2 => exact (Kd.R_reads' HO654.out).2.1); (case side3 => repeat (first | exact (Kd.R_reads' HO658.out).2.2 | (with_reducible refine Kd.C_alloc ?_ _) | (with_reducible refine Kd.C_drewN ?_ _) | (with_reducible refine Kd.C_drew ?_))); (case side4 => exact (Kd.R_reads' HO658.out).2.1); rintro e w56 ⟨rfl, hb⟩; have n0_ := Az.mk (Kd.Rb (by (with_reducible repeat first|apply Kd.Ra|apply Kd.Rn|apply Kd.Rw); exact HO646.out) hb); have n1_ := Az.mk (Kd.Rb (by (with_reducible repeat first|apply Kd.Ra|apply Kd.Rn|apply Kd.Rw); exact HO650.out) hb); have n2_ := Az.mk (Kd.Rb (by (with_reducible repeat first|apply Kd.Ra|apply Kd.Rn|apply Kd.Rw); exact HO654.out) hb); have n3_ := Az.mk (Kd.Rb (by (with_reducible repeat first|apply Kd.Ra|apply Kd.Rn|apply Kd.Rw); exact HO658.out) hb); have n4_ := Az.mk (bS (by repeat first|exact HB.out|apply bA|apply bN|apply bD) hb); clear HO646; clear HO650; clear HO654; clear HO658; clear HB; have HO646 := n0_; have HO650 := n1_; have HO654 := n2_; have HO658 := n3_; have HB := n4_; clear n0_ n1_ n2_ n3_ n4_; (try clear hb); (try clear hb2); (try clear hk); (try clear hi))); try go_wp2_with (first | (go_at_call 23; (with_reducible refine (laws_elSame.calls kj2 _ _ t651 _ _ t655 false _ ?side1 ?side2 ?side3 ?side4 A16.out).mono ?_); (case side1 => repeat (first | exact (Kd.R_reads' HO654.out).2.2 | (with_reducible refine Kd.C_alloc ?_ _) | (with_reducible refine Kd.C_drewN ?_ _) | (with_reducible refine Kd.C_drew ?_))); (case side2 => exact (Kd.R_reads' HO654.out).2.1); (case side3 => repeat (first | exact (Kd.R_reads' HO658.out).2.2 | (with_reducible refine Kd.C_alloc ?_ _) | (with_reducible refine Kd.C_drewN ?_ _) | (with_reducible refine Kd.C_drew ?_))); (case side4 => exact (Kd.R_reads' HO658.out).2.1); rintro e w56 ⟨rfl, hb⟩; have n0_ := Az.mk (Kd.Rb (by (with_reducible repeat first|apply Kd.Ra|apply Kd.Rn|apply Kd.Rw); exact HO646.out) hb); have n1_ := Az.mk (Kd.Rb (by (with_reducible repeat first|apply Kd.Ra|apply Kd.Rn|apply Kd.Rw); exact HO650.out) hb); have n2_ := Az.mk (Kd.Rb (by (with_reducible repeat first|apply Kd.Ra|apply Kd.Rn|apply Kd.Rw); exact HO654.out) hb); have n3_ := Az.mk (Kd.Rb (by (with_reducible repeat first|apply Kd.Ra|apply Kd.Rn|apply Kd.Rw); exact HO658.out) hb); have n4_ := Az.mk (bS (by repeat first|exact HB.out|apply bA|apply bN|apply bD) hb); clear HO646; clear HO650; clear HO654; clear HO658; clear HB; have HO646 := n0_; have HO650 := n1_; have HO654 := n2_; have HO658 := n3_; have HB := n4_; clear n0_ n1_ n2_ n3_ n4_; (try clear hb); (try clear hb2); (try clear hk); (try clear hi))))
    go_meet
    case rel => exact ⟨_, (true), (by first | rfl | (simp; done) | (simp [*]; done)), H', ⟨by have := HJ2.out; first | omega | exact Nat.le_refl _⟩, ⟨by (with_reducible repeat first|apply Kd.Ra|apply Kd.Rn|apply Kd.Rw); exact Kd.R_mono HO646.out (fun _ hk => hk.2)⟩, ⟨by (with_reducible repeat first|apply Kd.Ra|apply Kd.Rn|apply Kd.Rw); exact Kd.R_mono HO650.out (fun _ hk => hk.2)⟩, ⟨by (with_reducible repeat first|apply Kd.Ra|apply Kd.Rn|apply Kd.Rw); exact Kd.R_mono HO654.out (fun _ hk => hk.2)⟩, ⟨by (with_reducible repeat first|apply Kd.Ra|apply Kd.Rn|apply Kd.Rw); exact Kd.R_mono HO658.out (fun _ hk => hk.2)⟩, ⟨by repeat (first | (with_reducible first|exact HB.out|apply bA|apply bN|apply bD) | exact HB.out)⟩⟩
 case rest => as_aux_lemma =>
  clear HC10
  try clear c1
  try clear c2
  try clear p2
  try clear c3
  try clear c4
  try clear c4b0
  try clear c4b1
  try clear c5
  try clear c6
  try clear c15
  try clear c15b0
  try clear c15b1
  try clear c15b2
  try clear c17
  try clear c18
  try clear c18b0
  try clear c18b1
  try clear c18b2
  try clear c23
  try clear c23b0
  try clear c23b1
  try clear c23b2
  try clear c28
  try clear c28b0
  try clear c28b1
  try clear c28b2
  try clear c31
  try clear c31b0
  try clear c31b1
  try clear c31b2
  try clear p2
  obtain ⟨kq, x88_9, rfl, HA, HJ9, HO_6, HO_8, HO_10, HO_12, HB⟩ := hcut
  cases kq with
  | zero => exact absurd HA.out (by simp [laws_FnLives.j1])
  | succ kj9 =>
   have H := HA.out
   clear HA
   simp only [laws_FnLives.j1] at H
   by_cases c57 : x88_9 = true
   ·subst c57
    have H1 : (if (t644 == t648) = true then ((laws_elSame.f kj9 t651 t655).bind fun t663 => (if t663 = true then (if (t652 == t644) = true then ((impl_EventsValid.f a0).bind fun t664 => (if (t644 == t664) = true then (if (t643.length : Int) = (t647.length : Int) then ((impl_EventsValid.f a1).bind fun t665 => ((spec_EventsValid.f kj9 a1).bind fun t666 => (some (t665 == t666)))) else (some false)) else (some false))) else (some false)) else (some false))) else (some false)) = some r := by rw [if_pos rfl] at H; exact H
    clear H
    have H := H1
    clear H1
    by_cases c58 : (t644 == t648) = true
    ·rw [if_pos c58] at H
     have c58b0 : (t644 == t648) = true := c58
     (try (have c58b1 : decide (t644 = t648) = true := by simpa using c58))
     (try (have c58b2 : (t644 == t648) = true := by simpa using c58))
     clear c58
     replace H := Option.bind_eq_some_iff.mp H
     obtain ⟨t663, A590, H⟩ := H
     replace H : (if t663 = true then (if (t652 == t644) = true then ((impl_EventsValid.f a0).bind fun t664 => (if (t644 == t664) = true then (if (t643.length : Int) = (t647.length : Int) then ((impl_EventsValid.f a1).bind fun t665 => ((spec_EventsValid.f kj9 a1).bind fun t666 => (some (t665 == t666)))) else (some false)) else (some false))) else (some false)) else (some false)) = some r := H
     have A59 := Az.mk A590
     clear A590
     by_cases c60 : t663 = true
     ·subst c60
      have H1 : (if (t652 == t644) = true then ((impl_EventsValid.f a0).bind fun t664 => (if (t644 == t664) = true then (if (t643.length : Int) = (t647.length : Int) then ((impl_EventsValid.f a1).bind fun t665 => ((spec_EventsValid.f kj9 a1).bind fun t666 => (some (t665 == t666)))) else (some false)) else (some false))) else (some false)) = some r := by rw [if_pos rfl] at H; exact H
      clear H
      have H := H1
      clear H1
      by_cases c61 : (t652 == t644) = true
      ·rw [if_pos c61] at H
       have c61b0 : (t652 == t644) = true := c61
       (try (have c61b1 : decide (t652 = t644) = true := by simpa using c61))
       (try (have c61b2 : (t652 == t644) = true := by simpa using c61))
       clear c61
       replace H := Option.bind_eq_some_iff.mp H
       obtain ⟨t664, A620, H⟩ := H
       replace H : (if (t644 == t664) = true then (if (t643.length : Int) = (t647.length : Int) then ((impl_EventsValid.f a1).bind fun t665 => ((spec_EventsValid.f kj9 a1).bind fun t666 => (some (t665 == t666)))) else (some false)) else (some false)) = some r := H
       have A62 := Az.mk A620
       clear A620
       by_cases c63 : (t644 == t664) = true
       ·rw [if_pos c63] at H
        have c63b0 : (t644 == t664) = true := c63
        (try (have c63b1 : decide (t644 = t664) = true := by simpa using c63))
        (try (have c63b2 : (t644 == t664) = true := by simpa using c63))
        clear c63
        by_cases c64 : (t643.length : Int) = (t647.length : Int)
        ·rw [if_pos c64] at H
         have c64b0 : ((t643.length : Int) == (t647.length : Int)) = true := beq_iff_eq.mpr c64
         have c64b1 : ((t643.length : Int) != (t647.length : Int)) = false := bne_eq_false_iff_eq.mpr c64
         have c64b2 : (t643.length == t647.length) = true := by first | simpa using c64 | (simp at c64 ⊢; omega)
         clear c64
         replace H := Option.bind_eq_some_iff.mp H
         obtain ⟨t665, A650, H⟩ := H
         replace H : ((spec_EventsValid.f kj9 a1).bind fun t666 => (some (t665 == t666))) = some r := H
         have A65 := Az.mk A650
         clear A650
         replace H := Option.bind_eq_some_iff.mp H
         obtain ⟨t666, A660, H⟩ := H
         replace H : (some (t665 == t666)) = some r := H
         have A66 := Az.mk A660
         clear A660
         obtain rfl := Option.some.inj H
         obtain ⟨Ao67, co67, eo67⟩ := Kd.R_slice HO_10.out
         subst eo67
         obtain ⟨Ao68, co68, eo68⟩ := Kd.R_slice HO_12.out
         subst eo68
         go_wp2_with (first | (go_at_call 23; (with_reducible refine (laws_elSame.calls kj9 _ _ t651 _ _ t655 true _ ?side1 ?side2 ?side3 ?side4 A59.out).mono ?_); (case side1 => repeat (first | exact (Kd.R_reads' HO_10.out).2.2 | (with_reducible refine Kd.C_alloc ?_ _) | (with_reducible refine Kd.C_drewN ?_ _) | (with_reducible refine Kd.C_drew ?_))); (case side2 => exact (Kd.R_reads' HO_10.out).2.1); (case side3 => repeat (first | exact (Kd.R_reads' HO_12.out).2.2 | (with_reducible refine Kd.C_alloc ?_ _) | (with_reducible refine Kd.C_drewN ?_ _) | (with_reducible refine Kd.C_drew ?_))); (case side4 => exact (Kd.R_reads' HO_12.out).2.1); rintro e w69 ⟨rfl, hb⟩; have n0_ := Az.mk (Kd.Rb (by (with_reducible repeat first|apply Kd.Ra|apply Kd.Rn|apply Kd.Rw); exact HO_6.out) hb); have n1_ := Az.mk (Kd.Rb (by (with_reducible repeat first|apply Kd.Ra|apply Kd.Rn|apply Kd.Rw); exact HO_8.out) hb); have n2_ := Az.mk (Kd.Rb (by (with_reducible repeat first|apply Kd.Ra|apply Kd.Rn|apply Kd.Rw); exact HO_10.out) hb); have n3_ := Az.mk (Kd.Rb (by (with_reducible repeat first|apply Kd.Ra|apply Kd.Rn|apply Kd.Rw); exact HO_12.out) hb); have n4_ := Az.mk (bS (by repeat first|exact HB.out|apply bA|apply bN|apply bD) hb); clear HO_6; clear HO_8; clear HO_10; clear HO_12; clear HB; have HO_6 := n0_; have HO_8 := n1_; have HO_10 := n2_; have HO_12 := n3_; have HB := n4_; clear n0_ n1_ n2_ n3_ n4_; (try clear hb); (try clear hb2); (try clear hk); (try clear hi)) | (go_at_call 39; (with_reducible refine (impl_EventsValid.calls a0 t664 _ (HLd.out.below (by repeat first|exact HB.out|apply bA|apply bN|apply bD)) A62.out).mono ?_); rintro e w70 ⟨rfl, hb⟩; have n0_ := Az.mk (Kd.Rb (by (with_reducible repeat first|apply Kd.Ra|apply Kd.Rn|apply Kd.Rw); exact HO_6.out) hb); have n1_ := Az.mk (Kd.Rb (by (with_reducible repeat first|apply Kd.Ra|apply Kd.Rn|apply Kd.Rw); exact HO_8.out) hb); have n2_ := Az.mk (Kd.Rb (by (with_reducible repeat first|apply Kd.Ra|apply Kd.Rn|apply Kd.Rw); exact HO_10.out) hb); have n3_ := Az.mk (Kd.Rb (by (with_reducible repeat first|apply Kd.Ra|apply Kd.Rn|apply Kd.Rw); exact HO_12.out) hb); have n4_ := Az.mk (bS (by repeat first|exact HB.out|apply bA|apply bN|apply bD) hb); clear HO_6; clear HO_8; clear HO_10; clear HO_12; clear HB; have HO_6 := n0_; have HO_8 := n1_; have HO_10 := n2_; have HO_12 := n3_; have HB := n4_; clear n0_ n1_ n2_ n3_ n4_; (try clear hb); (try clear hb2); (try clear hk); (try clear hi); obtain ⟨Ao71, co71, eo71⟩ := Kd.R_slice HO_6.out; subst eo71; obtain ⟨Ao72, co72, eo72⟩ := Kd.R_slice HO_8.out; subst eo72) | (go_at_call 39; (with_reducible refine (impl_EventsValid.calls a1 t665 _ (HLd.out.below (by repeat first|exact HB.out|apply bA|apply bN|apply bD)) A65.out).mono ?_); rintro e w73 ⟨rfl, hb⟩; have n0_ := Az.mk (Kd.Rb (by (with_reducible repeat first|apply Kd.Ra|apply Kd.Rn|apply Kd.Rw); exact HO_6.out) hb); have n1_ := Az.mk (Kd.Rb (by (with_reducible repeat first|apply Kd.Ra|apply Kd.Rn|apply Kd.Rw); exact HO_8.out) hb); have n2_ := Az.mk (Kd.Rb (by (with_reducible repeat first|apply Kd.Ra|apply Kd.Rn|apply Kd.Rw); exact HO_10.out) hb); have n3_ := Az.mk (Kd.Rb (by (with_reducible repeat first|apply Kd.Ra|apply Kd.Rn|apply Kd.Rw); exact HO_12.out) hb); have n4_ := Az.mk (bS (by repeat first|exact HB.out|apply bA|apply bN|apply bD) hb); clear HO_6; clear HO_8; clear HO_10; clear HO_12; clear HB; have HO_6 := n0_; have HO_8 := n1_; have HO_10 := n2_; have HO_12 := n3_; have HB := n4_; clear n0_ n1_ n2_ n3_ n4_; (try clear hb); (try clear hb2); (try clear hk); (try clear hi)) | (go_at_call 40; (with_reducible refine (spec_EventsValid.calls kj9 a1 t666 _ A66.out).mono ?_); rintro e w74 ⟨rfl, hb⟩; have n0_ := Az.mk (Kd.Rb (by (with_reducible repeat first|apply Kd.Ra|apply Kd.Rn|apply Kd.Rw); exact HO_6.out) hb); have n1_ := Az.mk (Kd.Rb (by (with_reducible repeat first|apply Kd.Ra|apply Kd.Rn|apply Kd.Rw); exact HO_8.out) hb); have n2_ := Az.mk (Kd.Rb (by (with_reducible repeat first|apply Kd.Ra|apply Kd.Rn|apply Kd.Rw); exact HO_10.out) hb); have n3_ := Az.mk (Kd.Rb (by (with_reducible repeat first|apply Kd.Ra|apply Kd.Rn|apply Kd.Rw); exact HO_12.out) hb); have n4_ := Az.mk (bS (by repeat first|exact HB.out|apply bA|apply bN|apply bD) hb); clear HO_6; clear HO_8; clear HO_10; clear HO_12; clear HB; have HO_6 := n0_; have HO_8 := n1_; have HO_10 := n2_; have HO_12 := n3_; have HB := n4_; clear n0_ n1_ n2_ n3_ n4_; (try clear hb); (try clear hb2); (try clear hk); (try clear hi)))
         repeat (go_quiet (first | (go_at_call 23; (with_reducible refine (laws_elSame.calls kj9 _ _ t651 _ _ t655 true _ ?side1 ?side2 ?side3 ?side4 A59.out).mono ?_); (case side1 => repeat (first | exact (Kd.R_reads' HO_10.out).2.2 | (with_reducible refine Kd.C_alloc ?_ _) | (with_reducible refine Kd.C_drewN ?_ _) | (with_reducible refine Kd.C_drew ?_))); (case side2 => exact (Kd.R_reads' HO_10.out).2.1); (case side3 => repeat (first | exact (Kd.R_reads' HO_12.out).2.2 | (with_reducible refine Kd.C_alloc ?_ _) | (with_reducible refine Kd.C_drewN ?_ _) | (with_reducible refine Kd.C_drew ?_))); (case side4 => exact (Kd.R_reads' HO_12.out).2.1); rintro e w69 ⟨rfl, hb⟩; have n0_ := Az.mk (Kd.Rb (by (with_reducible repeat first|apply Kd.Ra|apply Kd.Rn|apply Kd.Rw); exact HO_6.out) hb); have n1_ := Az.mk (Kd.Rb (by (with_reducible repeat first|apply Kd.Ra|apply Kd.Rn|apply Kd.Rw); exact HO_8.out) hb); have n2_ := Az.mk (Kd.Rb (by (with_reducible repeat first|apply Kd.Ra|apply Kd.Rn|apply Kd.Rw); exact HO_10.out) hb); have n3_ := Az.mk (Kd.Rb (by (with_reducible repeat first|apply Kd.Ra|apply Kd.Rn|apply Kd.Rw); exact HO_12.out) hb); have n4_ := Az.mk (bS (by repeat first|exact HB.out|apply bA|apply bN|apply bD) hb); clear HO_6; clear HO_8; clear HO_10; clear HO_12; clear HB; have HO_6 := n0_; have HO_8 := n1_; have HO_10 := n2_; have HO_12 := n3_; have HB := n4_; clear n0_ n1_ n2_ n3_ n4_; (try clear hb); (try clear hb2); (try clear hk); (try clear hi)) | (go_at_call 39; (with_reducible refine (impl_EventsValid.calls a0 t664 _ (HLd.out.below (by repeat first|exact HB.out|apply bA|apply bN|apply bD)) A62.out).mono ?_); rintro e w70 ⟨rfl, hb⟩; have n0_ := Az.mk (Kd.Rb (by (with_reducible repeat first|apply Kd.Ra|apply Kd.Rn|apply Kd.Rw); exact HO_6.out) hb); have n1_ := Az.mk (Kd.Rb (by (with_reducible repeat first|apply Kd.Ra|apply Kd.Rn|apply Kd.Rw); exact HO_8.out) hb); have n2_ := Az.mk (Kd.Rb (by (with_reducible repeat first|apply Kd.Ra|apply Kd.Rn|apply Kd.Rw); exact HO_10.out) hb); have n3_ := Az.mk (Kd.Rb (by (with_reducible repeat first|apply Kd.Ra|apply Kd.Rn|apply Kd.Rw); exact HO_12.out) hb); have n4_ := Az.mk (bS (by repeat first|exact HB.out|apply bA|apply bN|apply bD) hb); clear HO_6; clear HO_8; clear HO_10; clear HO_12; clear HB; have HO_6 := n0_; have HO_8 := n1_; have HO_10 := n2_; have HO_12 := n3_; have HB := n4_; clear n0_ n1_ n2_ n3_ n4_; (try clear hb); (try clear hb2); (try clear hk); (try clear hi); obtain ⟨Ao71, co71, eo71⟩ := Kd.R_slice HO_6.out; subst eo71; obtain ⟨Ao72, co72, eo72⟩ := Kd.R_slice HO_8.out; subst eo72) | (go_at_call 39; (with_reducible refine (impl_EventsValid.calls a1 t665 _ (HLd.out.below (by repeat first|exact HB.out|apply bA|apply bN|apply bD)) A65.out).mono ?_); rintro e w73 ⟨rfl, hb⟩; have n0_ := Az.mk (Kd.Rb (by (with_reducible repeat first|apply Kd.Ra|apply Kd.Rn|apply Kd.Rw); exact HO_6.out) hb); have n1_ := Az.mk (Kd.Rb (by (with_reducible repeat first|apply Kd.Ra|apply Kd.Rn|apply Kd.Rw); exact HO_8.out) hb); have n2_ := Az.mk (Kd.Rb (by (with_reducible repeat first|apply Kd.Ra|apply Kd.Rn|apply Kd.Rw); exact HO_10.out) hb); have n3_ := Az.mk (Kd.Rb (by (with_reducible repeat first|apply Kd.Ra|apply Kd.Rn|apply Kd.Rw); exact HO_12.out) hb); have n4_ := Az.mk (bS (by repeat first|exact HB.out|apply bA|apply bN|apply bD) hb); clear HO_6; clear HO_8; clear HO_10; clear HO_12; clear HB; have HO_6 := n0_; have HO_8 := n1_; have HO_10 := n2_; have HO_12 := n3_; have HB := n4_; clear n0_ n1_ n2_ n3_ n4_; (try clear hb); (try clear hb2); (try clear hk); (try clear hi)) | (go_at_call 40; (with_reducible refine (spec_EventsValid.calls kj9 a1 t666 _ A66.out).mono ?_); rintro e w74 ⟨rfl, hb⟩; have n0_ := Az.mk (Kd.Rb (by (with_reducible repeat first|apply Kd.Ra|apply Kd.Rn|apply Kd.Rw); exact HO_6.out) hb); have n1_ := Az.mk (Kd.Rb (by (with_reducible repeat first|apply Kd.Ra|apply Kd.Rn|apply Kd.Rw); exact HO_8.out) hb); have n2_ := Az.mk (Kd.Rb (by (with_reducible repeat first|apply Kd.Ra|apply Kd.Rn|apply Kd.Rw); exact HO_10.out) hb); have n3_ := Az.mk (Kd.Rb (by (with_reducible repeat first|apply Kd.Ra|apply Kd.Rn|apply Kd.Rw); exact HO_12.out) hb); have n4_ := Az.mk (bS (by repeat first|exact HB.out|apply bA|apply bN|apply bD) hb); clear HO_6; clear HO_8; clear HO_10; clear HO_12; clear HB; have HO_6 := n0_; have HO_8 := n1_; have HO_10 := n2_; have HO_12 := n3_; have HB := n4_; clear n0_ n1_ n2_ n3_ n4_; (try clear hb); (try clear hb2); (try clear hk); (try clear hi))); try go_wp2_with (first | (go_at_call 23; (with_reducible refine (laws_elSame.calls kj9 _ _ t651 _ _ t655 true _ ?side1 ?side2 ?side3 ?side4 A59.out).mono ?_); (case side1 => repeat (first | exact (Kd.R_reads' HO_10.out).2.2 | (with_reducible refine Kd.C_alloc ?_ _) | (with_reducible refine Kd.C_drewN ?_ _) | (with_reducible refine Kd.C_drew ?_))); (case side2 => exact (Kd.R_reads' HO_10.out).2.1); (case side3 => repeat (first | exact (Kd.R_reads' HO_12.out).2.2 | (with_reducible refine Kd.C_alloc ?_ _) | (with_reducible refine Kd.C_drewN ?_ _) | (with_reducible refine Kd.C_drew ?_))); (case side4 => exact (Kd.R_reads' HO_12.out).2.1); rintro e w69 ⟨rfl, hb⟩; have n0_ := Az.mk (Kd.Rb (by (with_reducible repeat first|apply Kd.Ra|apply Kd.Rn|apply Kd.Rw); exact HO_6.out) hb); have n1_ := Az.mk (Kd.Rb (by (with_reducible repeat first|apply Kd.Ra|apply Kd.Rn|apply Kd.Rw); exact HO_8.out) hb); have n2_ := Az.mk (Kd.Rb (by (with_reducible repeat first|apply Kd.Ra|apply Kd.Rn|apply Kd.Rw); exact HO_10.out) hb); have n3_ := Az.mk (Kd.Rb (by (with_reducible repeat first|apply Kd.Ra|apply Kd.Rn|apply Kd.Rw); exact HO_12.out) hb); have n4_ := Az.mk (bS (by repeat first|exact HB.out|apply bA|apply bN|apply bD) hb); clear HO_6; clear HO_8; clear HO_10; clear HO_12; clear HB; have HO_6 := n0_; have HO_8 := n1_; have HO_10 := n2_; have HO_12 := n3_; have HB := n4_; clear n0_ n1_ n2_ n3_ n4_; (try clear hb); (try clear hb2); (try clear hk); (try clear hi)) | (go_at_call 39; (with_reducible refine (impl_EventsValid.calls a0 t664 _ (HLd.out.below (by repeat first|exact HB.out|apply bA|apply bN|apply bD)) A62.out).mono ?_); rintro e w70 ⟨rfl, hb⟩; have n0_ := Az.mk (Kd.Rb (by (with_reducible repeat first|apply Kd.Ra|apply Kd.Rn|apply Kd.Rw); exact HO_6.out) hb); have n1_ := Az.mk (Kd.Rb (by (with_reducible repeat first|apply Kd.Ra|apply Kd.Rn|apply Kd.Rw); exact HO_8.out) hb); have n2_ := Az.mk (Kd.Rb (by (with_reducible repeat first|apply Kd.Ra|apply Kd.Rn|apply Kd.Rw); exact HO_10.out) hb); have n3_ := Az.mk (Kd.Rb (by (with_reducible repeat first|apply Kd.Ra|apply Kd.Rn|apply Kd.Rw); exact HO_12.out) hb); have n4_ := Az.mk (bS (by repeat first|exact HB.out|apply bA|apply bN|apply bD) hb); clear HO_6; clear HO_8; clear HO_10; clear HO_12; clear HB; have HO_6 := n0_; have HO_8 := n1_; have HO_10 := n2_; have HO_12 := n3_; have HB := n4_; clear n0_ n1_ n2_ n3_ n4_; (try clear hb); (try clear hb2); (try clear hk); (try clear hi); obtain ⟨Ao71, co71, eo71⟩ := Kd.R_slice HO_6.out; subst eo71; obtain ⟨Ao72, co72, eo72⟩ := Kd.R_slice HO_8.out; subst eo72) | (go_at_call 39; (with_reducible refine (impl_EventsValid.calls a1 t665 _ (HLd.out.below (by repeat first|exact HB.out|apply bA|apply bN|apply bD)) A65.out).mono ?_); rintro e w73 ⟨rfl, hb⟩; have n0_ := Az.mk (Kd.Rb (by (with_reducible repeat first|apply Kd.Ra|apply Kd.Rn|apply Kd.Rw); exact HO_6.out) hb); have n1_ := Az.mk (Kd.Rb (by (with_reducible repeat first|apply Kd.Ra|apply Kd.Rn|apply Kd.Rw); exact HO_8.out) hb); have n2_ := Az.mk (Kd.Rb (by (with_reducible repeat first|apply Kd.Ra|apply Kd.Rn|apply Kd.Rw); exact HO_10.out) hb); have n3_ := Az.mk (Kd.Rb (by (with_reducible repeat first|apply Kd.Ra|apply Kd.Rn|apply Kd.Rw); exact HO_12.out) hb); have n4_ := Az.mk (bS (by repeat first|exact HB.out|apply bA|apply bN|apply bD) hb); clear HO_6; clear HO_8; clear HO_10; clear HO_12; clear HB; have HO_6 := n0_; have HO_8 := n1_; have HO_10 := n2_; have HO_12 := n3_; have HB := n4_; clear n0_ n1_ n2_ n3_ n4_; (try clear hb); (try clear hb2); (try clear hk); (try clear hi)) | (go_at_call 40; (with_reducible refine (spec_EventsValid.calls kj9 a1 t666 _ A66.out).mono ?_); rintro e w74 ⟨rfl, hb⟩; have n0_ := Az.mk (Kd.Rb (by (with_reducible repeat first|apply Kd.Ra|apply Kd.Rn|apply Kd.Rw); exact HO_6.out) hb); have n1_ := Az.mk (Kd.Rb (by (with_reducible repeat first|apply Kd.Ra|apply Kd.Rn|apply Kd.Rw); exact HO_8.out) hb); have n2_ := Az.mk (Kd.Rb (by (with_reducible repeat first|apply Kd.Ra|apply Kd.Rn|apply Kd.Rw); exact HO_10.out) hb); have n3_ := Az.mk (Kd.Rb (by (with_reducible repeat first|apply Kd.Ra|apply Kd.Rn|apply Kd.Rw); exact HO_12.out) hb); have n4_ := Az.mk (bS (by repeat first|exact HB.out|apply bA|apply bN|apply bD) hb); clear HO_6; clear HO_8; clear HO_10; clear HO_12; clear HB; have HO_6 := n0_; have HO_8 := n1_; have HO_10 := n2_; have HO_12 := n3_; have HB := n4_; clear n0_ n1_ n2_ n3_ n4_; (try clear hb); (try clear hb2); (try clear hk); (try clear hi))))
         go_ret
         exact ⟨by first | rfl | (simp [errW_none, errW_some] <;> rfl) | (simp [*, errW_none, errW_some] <;> rfl), by repeat (first | (with_reducible first|exact HB.out|apply bA|apply bN|apply bD) | exact HB.out)⟩
        ·rw [if_neg c64] at H
         have c64b0 : ((t643.length : Int) == (t647.length : Int)) = false := beq_eq_false_iff_ne.mpr c64
         have c64b1 : ((t643.length : Int) != (t647.length : Int)) = true := bne_iff_ne.mpr c64
         have c64b2 : (t643.length == t647.length) = false := by first | simpa using c64 | (simp at c64 ⊢; omega)
         obtain rfl := Option.some.inj H
         obtain ⟨Ao75, co75, eo75⟩ := Kd.R_slice HO_10.out
         subst eo75
         obtain ⟨Ao76, co76, eo76⟩ := Kd.R_slice HO_12.out
         subst eo76
         go_wp2_with (first | (go_at_call 23; (with_reducible refine (laws_elSame.calls kj9 _ _ t651 _ _ t655 true _ ?side1 ?side2 ?side3 ?side4 A59.out).mono ?_); (case side1 => repeat (first | exact (Kd.R_reads' HO_10.out).2.2 | (with_reducible refine Kd.C_alloc ?_ _) | (with_reducible refine Kd.C_drewN ?_ _) | (with_reducible refine Kd.C_drew ?_))); (case side2 => exact (Kd.R_reads' HO_10.out).2.1); (case side3 => repeat (first | exact (Kd.R_reads' HO_12.out).2.2 | (with_reducible refine Kd.C_alloc ?_ _) | (with_reducible refine Kd.C_drewN ?_ _) | (with_reducible refine Kd.C_drew ?_))); (case side4 => exact (Kd.R_reads' HO_12.out).2.1); rintro e w77 ⟨rfl, hb⟩; have n0_ := Az.mk (Kd.Rb (by (with_reducible repeat first|apply Kd.Ra|apply Kd.Rn|apply Kd.Rw); exact HO_6.out) hb); have n1_ := Az.mk (Kd.Rb (by (with_reducible repeat first|apply Kd.Ra|apply Kd.Rn|apply Kd.Rw); exact HO_8.out) hb); have n2_ := Az.mk (Kd.Rb (by (with_reducible repeat first|apply Kd.Ra|apply Kd.Rn|apply Kd.Rw); exact HO_10.out) hb); have n3_ := Az.mk (Kd.Rb (by (with_reducible repeat first|apply Kd.Ra|apply Kd.Rn|apply Kd.Rw); exact HO_12.out) hb); have n4_ := Az.mk (bS (by repeat first|exact HB.out|apply bA|apply bN|apply bD) hb); clear HO_6; clear HO_8; clear HO_10; clear HO_12; clear HB; have HO_6 := n0_; have HO_8 := n1_; have HO_10 := n2_; have HO_12 := n3_; have HB := n4_; clear n0_ n1_ n2_ n3_ n4_; (try clear hb); (try clear hb2); (try clear hk); (try clear hi)) | (go_at_call 39; (with_reducible refine (impl_EventsValid.calls a0 t664 _ (HLd.out.below (by repeat first|exact HB.out|apply bA|apply bN|apply bD)) A62.out).mono ?_); rintro e w78 ⟨rfl, hb⟩; have n0_ := Az.mk (Kd.Rb (by (with_reducible repeat first|apply Kd.Ra|apply Kd.Rn|apply Kd.Rw); exact HO_6.out) hb); have n1_ := Az.mk (Kd.Rb (by (with_reducible repeat first|apply Kd.Ra|apply Kd.Rn|apply Kd.Rw); exact HO_8.out) hb); have n2_ := Az.mk (Kd.Rb (by (with_reducible repeat first|apply Kd.Ra|apply Kd.Rn|apply Kd.Rw); exact HO_10.out) hb); have n3_ := Az.mk (Kd.Rb (by (with_reducible repeat first|apply Kd.Ra|apply Kd.Rn|apply Kd.Rw); exact HO_12.out) hb); have n4_ := Az.mk (bS (by repeat first|exact HB.out|apply bA|apply bN|apply bD) hb); clear HO_6; clear HO_8; clear HO_10; clear HO_12; clear HB; have HO_6 := n0_; have HO_8 := n1_; have HO_10 := n2_; have HO_12 := n3_; have HB := n4_; clear n0_ n1_ n2_ n3_ n4_; (try clear hb); (try clear hb2); (try clear hk); (try clear hi); obtain ⟨Ao79, co79, eo79⟩ := Kd.R_slice HO_6.out; subst eo79; obtain ⟨Ao80, co80, eo80⟩ := Kd.R_slice HO_8.out; subst eo80))
         repeat (go_quiet (first | (go_at_call 23; (with_reducible refine (laws_elSame.calls kj9 _ _ t651 _ _ t655 true _ ?side1 ?side2 ?side3 ?side4 A59.out).mono ?_); (case side1 => repeat (first | exact (Kd.R_reads' HO_10.out).2.2 | (with_reducible refine Kd.C_alloc ?_ _) | (with_reducible refine Kd.C_drewN ?_ _) | (with_reducible refine Kd.C_drew ?_))); (case side2 => exact (Kd.R_reads' HO_10.out).2.1); (case side3 => repeat (first | exact (Kd.R_reads' HO_12.out).2.2 | (with_reducible refine Kd.C_alloc ?_ _) | (with_reducible refine Kd.C_drewN ?_ _) | (with_reducible refine Kd.C_drew ?_))); (case side4 => exact (Kd.R_reads' HO_12.out).2.1); rintro e w77 ⟨rfl, hb⟩; have n0_ := Az.mk (Kd.Rb (by (with_reducible repeat first|apply Kd.Ra|apply Kd.Rn|apply Kd.Rw); exact HO_6.out) hb); have n1_ := Az.mk (Kd.Rb (by (with_reducible repeat first|apply Kd.Ra|apply Kd.Rn|apply Kd.Rw); exact HO_8.out) hb); have n2_ := Az.mk (Kd.Rb (by (with_reducible repeat first|apply Kd.Ra|apply Kd.Rn|apply Kd.Rw); exact HO_10.out) hb); have n3_ := Az.mk (Kd.Rb (by (with_reducible repeat first|apply Kd.Ra|apply Kd.Rn|apply Kd.Rw); exact HO_12.out) hb); have n4_ := Az.mk (bS (by repeat first|exact HB.out|apply bA|apply bN|apply bD) hb); clear HO_6; clear HO_8; clear HO_10; clear HO_12; clear HB; have HO_6 := n0_; have HO_8 := n1_; have HO_10 := n2_; have HO_12 := n3_; have HB := n4_; clear n0_ n1_ n2_ n3_ n4_; (try clear hb); (try clear hb2); (try clear hk); (try clear hi)) | (go_at_call 39; (with_reducible refine (impl_EventsValid.calls a0 t664 _ (HLd.out.below (by repeat first|exact HB.out|apply bA|apply bN|apply bD)) A62.out).mono ?_); rintro e w78 ⟨rfl, hb⟩; have n0_ := Az.mk (Kd.Rb (by (with_reducible repeat first|apply Kd.Ra|apply Kd.Rn|apply Kd.Rw); exact HO_6.out) hb); have n1_ := Az.mk (Kd.Rb (by (with_reducible repeat first|apply Kd.Ra|apply Kd.Rn|apply Kd.Rw); exact HO_8.out) hb); have n2_ := Az.mk (Kd.Rb (by (with_reducible repeat first|apply Kd.Ra|apply Kd.Rn|apply Kd.Rw); exact HO_10.out) hb); have n3_ := Az.mk (Kd.Rb (by (with_reducible repeat first|apply Kd.Ra|apply Kd.Rn|apply Kd.Rw); exact HO_12.out) hb); have n4_ := Az.mk (bS (by repeat first|exact HB.out|apply bA|apply bN|apply bD) hb); clear HO_6; clear HO_8; clear HO_10; clear HO_12; clear HB; have HO_6 := n0_; have HO_8 := n1_; have HO_10 := n2_; have HO_12 := n3_; have HB := n4_; clear n0_ n1_ n2_ n3_ n4_; (try clear hb); (try clear hb2); (try clear hk); (try clear hi); obtain ⟨Ao79, co79, eo79⟩ := Kd.R_slice HO_6.out; subst eo79; obtain ⟨Ao80, co80, eo80⟩ := Kd.R_slice HO_8.out; subst eo80)); try go_wp2_with (first | (go_at_call 23; (with_reducible refine (laws_elSame.calls kj9 _ _ t651 _ _ t655 true _ ?side1 ?side2 ?side3 ?side4 A59.out).mono ?_); (case side1 => repeat (first | exact (Kd.R_reads' HO_10.out).2.2 | (with_reducible refine Kd.C_alloc ?_ _) | (with_reducible refine Kd.C_drewN ?_ _) | (with_reducible refine Kd.C_drew ?_))); (case side2 => exact (Kd.R_reads' HO_10.out).2.1); (case side3 => repeat (first | exact (Kd.R_reads' HO_12.out).2.2 | (with_reducible refine Kd.C_alloc ?_ _) | (with_reducible refine Kd.C_drewN ?_ _) | (with_reducible refine Kd.C_drew ?_))); (case side4 => exact (Kd.R_reads' HO_12.out).2.1); rintro e w77 ⟨rfl, hb⟩; have n0_ := Az.mk (Kd.Rb (by (with_reducible repeat first|apply Kd.Ra|apply Kd.Rn|apply Kd.Rw); exact HO_6.out) hb); have n1_ := Az.mk (Kd.Rb (by (with_reducible repeat first|apply Kd.Ra|apply Kd.Rn|apply Kd.Rw); exact HO_8.out) hb); have n2_ := Az.mk (Kd.Rb (by (with_reducible repeat first|apply Kd.Ra|apply Kd.Rn|apply Kd.Rw); exact HO_10.out) hb); have n3_ := Az.mk (Kd.Rb (by (with_reducible repeat first|apply Kd.Ra|apply Kd.Rn|apply Kd.Rw); exact HO_12.out) hb); have n4_ := Az.mk (bS (by repeat first|exact HB.out|apply bA|apply bN|apply bD) hb); clear HO_6; clear HO_8; clear HO_10; clear HO_12; clear HB; have HO_6 := n0_; have HO_8 := n1_; have HO_10 := n2_; have HO_12 := n3_; have HB := n4_; clear n0_ n1_ n2_ n3_ n4_; (try clear hb); (try clear hb2); (try clear hk); (try clear hi)) | (go_at_call 39; (with_reducible refine (impl_EventsValid.calls a0 t664 _ (HLd.out.below (by repeat first|exact HB.out|apply bA|apply bN|apply bD)) A62.out).mono ?_); rintro e w78 ⟨rfl, hb⟩; have n0_ := Az.mk (Kd.Rb (by (with_reducible repeat first|apply Kd.Ra|apply Kd.Rn|apply Kd.Rw); exact HO_6.out) hb); have n1_ := Az.mk (Kd.Rb (by (with_reducible repeat first|apply Kd.Ra|apply Kd.Rn|apply Kd.Rw); exact HO_8.out) hb); have n2_ := Az.mk (Kd.Rb (by (with_reducible repeat first|apply Kd.Ra|apply Kd.Rn|apply Kd.Rw); exact HO_10.out) hb); have n3_ := Az.mk (Kd.Rb (by (with_reducible repeat first|apply Kd.Ra|apply Kd.Rn|apply Kd.Rw); exact HO_12.out) hb); have n4_ := Az.mk (bS (by repeat first|exact HB.out|apply bA|apply bN|apply bD) hb); clear HO_6; clear HO_8; clear HO_10; clear HO_12; clear HB; have HO_6 := n0_; have HO_8 := n1_; have HO_10 := n2_; have HO_12 := n3_; have HB := n4_; clear n0_ n1_ n2_ n3_ n4_; (try clear hb); (try clear hb2); (try clear hk); (try clear hi); obtain ⟨Ao79, co79, eo79⟩ := Kd.R_slice HO_6.out; subst eo79; obtain ⟨Ao80, co80, eo80⟩ := Kd.R_slice HO_8.out; subst eo80)))
         go_ret
         exact ⟨by first | rfl | (simp [errW_none, errW_some] <;> rfl) | (simp [*, errW_none, errW_some] <;> rfl), by repeat (first | (with_reducible first|exact HB.out|apply bA|apply bN|apply bD) | exact HB.out)⟩
       ·rw [if_neg c63] at H
        have c63b0 : (t644 == t664) = false := by simpa using c63
        (try (have c63b1 : decide (t644 = t664) = false := by simpa using c63))
        (try (have c63b2 : (t644 == t664) = false := by simpa using c63))
        (try (have c63b3 : ¬ (t644 = t664) := by simpa using c63))
        clear c63
        obtain rfl := Option.some.inj H
        obtain ⟨Ao81, co81, eo81⟩ := Kd.R_slice HO_10.out
        subst eo81
        obtain ⟨Ao82, co82, eo82⟩ := Kd.R_slice HO_12.out
        subst eo82
        go_wp2_with (first | (go_at_call 23; (with_reducible refine (laws_elSame.calls kj9 _ _ t651 _ _ t655 true _ ?side1 ?side2 ?side3 ?side4 A59.out).mono ?_); (case side1 => repeat (first | exact (Kd.R_reads' HO_10.out).2.2 | (with_reducible refine Kd.C_alloc ?_ _) | (with_reducible refine Kd.C_drewN ?_ _) | (with_reducible refine Kd.C_drew ?_))); (case side2 => exact (Kd.R_reads' HO_10.out).2.1); (case side3 => repeat (first | exact (Kd.R_reads' HO_12.out).2.2 | (with_reducible refine Kd.C_alloc ?_ _) | (with_reducible refine Kd.C_drewN ?_ _) | (with_reducible refine Kd.C_drew ?_))); (case side4 => exact (Kd.R_reads' HO_12.out).2.1); rintro e w83 ⟨rfl, hb⟩; have n0_ := Az.mk (Kd.Rb (by (with_reducible repeat first|apply Kd.Ra|apply Kd.Rn|apply Kd.Rw); exact HO_6.out) hb); have n1_ := Az.mk (Kd.Rb (by (with_reducible repeat first|apply Kd.Ra|apply Kd.Rn|apply Kd.Rw); exact HO_8.out) hb); have n2_ := Az.mk (Kd.Rb (by (with_reducible repeat first|apply Kd.Ra|apply Kd.Rn|apply Kd.Rw); exact HO_10.out) hb); have n3_ := Az.mk (Kd.Rb (by (with_reducible repeat first|apply Kd.Ra|apply Kd.Rn|apply Kd.Rw); exact HO_12.out) hb); have n4_ := Az.mk (bS (by repeat first|exact HB.out|apply bA|apply bN|apply bD) hb); clear HO_6; clear HO_8; clear HO_10; clear HO_12; clear HB; have HO_6 := n0_; have HO_8 := n1_; have HO_10 := n2_; have HO_12 := n3_; have HB := n4_; clear n0_ n1_ n2_ n3_ n4_; (try clear hb); (try clear hb2); (try clear hk); (try clear hi)) | (go_at_call 39; (with_reducible refine (impl_EventsValid.calls a0 t664 _ (HLd.out.below (by repeat first|exact HB.out|apply bA|apply bN|apply bD)) A62.out).mono ?_); rintro e w84 ⟨rfl, hb⟩; have n0_ := Az.mk (Kd.Rb (by (with_reducible repeat first|apply Kd.Ra|apply Kd.Rn|apply Kd.Rw); exact HO_6.out) hb); have n1_ := Az.mk (Kd.Rb (by (with_reducible repeat first|apply Kd.Ra|apply Kd.Rn|apply Kd.Rw); exact HO_8.out) hb); have n2_ := Az.mk (Kd.Rb (by (with_reducible repeat first|apply Kd.Ra|apply Kd.Rn|apply Kd.Rw); exact HO_10.out) hb); have n3_ := Az.mk (Kd.Rb (by (with_reducible repeat first|apply Kd.Ra|apply Kd.Rn|apply Kd.Rw); exact HO_12.out) hb); have n4_ := Az.mk (bS (by repeat first|exact HB.out|apply bA|apply bN|apply bD) hb); clear HO_6; clear HO_8; clear HO_10; clear HO_12; clear HB; have HO_6 := n0_; have HO_8 := n1_; have HO_10 := n2_; have HO_12 := n3_; have HB := n4_; clear n0_ n1_ n2_ n3_ n4_; (try clear hb); (try clear hb2); (try clear hk); (try clear hi)))
        repeat (go_quiet (first | (go_at_call 23; (with_reducible refine (laws_elSame.calls kj9 _ _ t651 _ _ t655 true _ ?side1 ?side2 ?side3 ?side4 A59.out).mono ?_); (case side1 => repeat (first | exact (Kd.R_reads' HO_10.out).2.2 | (with_reducible refine Kd.C_alloc ?_ _) | (with_reducible refine Kd.C_drewN ?_ _) | (with_reducible refine Kd.C_drew ?_))); (case side2 => exact (Kd.R_reads' HO_10.out).2.1); (case side3 => repeat (first | exact (Kd.R_reads' HO_12.out).2.2 | (with_reducible refine Kd.C_alloc ?_ _) | (with_reducible refine Kd.C_drewN ?_ _) | (with_reducible refine Kd.C_drew ?_))); (case side4 => exact (Kd.R_reads' HO_12.out).2.1); rintro e w83 ⟨rfl, hb⟩; have n0_ := Az.mk (Kd.Rb (by (with_reducible repeat first|apply Kd.Ra|apply Kd.Rn|apply Kd.Rw); exact HO_6.out) hb); have n1_ := Az.mk (Kd.Rb (by (with_reducible repeat first|apply Kd.Ra|apply Kd.Rn|apply Kd.Rw); exact HO_8.out) hb); have n2_ := Az.mk (Kd.Rb (by (with_reducible repeat first|apply Kd.Ra|apply Kd.Rn|apply Kd.Rw); exact HO_10.out) hb); have n3_ := Az.mk (Kd.Rb (by (with_reducible repeat first|apply Kd.Ra|apply Kd.Rn|apply Kd.Rw); exact HO_12.out) hb); have n4_ := Az.mk (bS (by repeat first|exact HB.out|apply bA|apply bN|apply bD) hb); clear HO_6; clear HO_8; clear HO_10; clear HO_12; clear HB; have HO_6 := n0_; have HO_8 := n1_; have HO_10 := n2_; have HO_12 := n3_; have HB := n4_; clear n0_ n1_ n2_ n3_ n4_; (try clear hb); (try clear hb2); (try clear hk); (try clear hi)) | (go_at_call 39; (with_reducible refine (impl_EventsValid.calls a0 t664 _ (HLd.out.below (by repeat first|exact HB.out|apply bA|apply bN|apply bD)) A62.out).mono ?_); rintro e w84 ⟨rfl, hb⟩; have n0_ := Az.mk (Kd.Rb (by (with_reducible repeat first|apply Kd.Ra|apply Kd.Rn|apply Kd.Rw); exact HO_6.out) hb); have n1_ := Az.mk (Kd.Rb (by (with_reducible repeat first|apply Kd.Ra|apply Kd.Rn|apply Kd.Rw); exact HO_8.out) hb); have n2_ := Az.mk (Kd.Rb (by (with_reducible repeat first|apply Kd.Ra|apply Kd.Rn|apply Kd.Rw); exact HO_10.out) hb); have n3_ := Az.mk (Kd.Rb (by (with_reducible repeat first|apply Kd.Ra|apply Kd.Rn|apply Kd.Rw); exact HO_12.out) hb); have n4_ := Az.mk (bS (by repeat first|exact HB.out|apply bA|apply bN|apply bD) hb); clear HO_6; clear HO_8; clear HO_10; clear HO_12; clear HB; have HO_6 := n0_; have HO_8 := n1_; have HO_10 := n2_; have HO_12 := n3_; have HB := n4_; clear n0_ n1_ n2_ n3_ n4_; (try clear hb); (try clear hb2); (try clear hk); (try clear hi))); try go_wp2_with (first | (go_at_call 23; (with_reducible refine (laws_elSame.calls kj9 _ _ t651 _ _ t655 true _ ?side1 ?side2 ?side3 ?side4 A59.out).mono ?_); (case side1 => repeat (first | exact (Kd.R_reads' HO_10.out).2.2 | (with_reducible refine Kd.C_alloc ?_ _) | (with_reducible refine Kd.C_drewN ?_ _) | (with_reducible refine Kd.C_drew ?_))); (case side2 => exact (Kd.R_reads' HO_10.out).2.1); (case side3 => repeat (first | exact (Kd.R_reads' HO_12.out).2.2 | (with_reducible refine Kd.C_alloc ?_ _) | (with_reducible refine Kd.C_drewN ?_ _) | (with_reducible refine Kd.C_drew ?_))); (case side4 => exact (Kd.R_reads' HO_12.out).2.1); rintro e w83 ⟨rfl, hb⟩; have n0_ := Az.mk (Kd.Rb (by (with_reducible repeat first|apply Kd.Ra|apply Kd.Rn|apply Kd.Rw); exact HO_6.out) hb); have n1_ := Az.mk (Kd.Rb (by (with_reducible repeat first|apply Kd.Ra|apply Kd.Rn|apply Kd.Rw); exact HO_8.out) hb); have n2_ := Az.mk (Kd.Rb (by (with_reducible repeat first|apply Kd.Ra|apply Kd.Rn|apply Kd.Rw); exact HO_10.out) hb); have n3_ := Az.mk (Kd.Rb (by (with_reducible repeat first|apply Kd.Ra|apply Kd.Rn|apply Kd.Rw); exact HO_12.out) hb); have n4_ := Az.mk (bS (by repeat first|exact HB.out|apply bA|apply bN|apply bD) hb); clear HO_6; clear HO_8; clear HO_10; clear HO_12; clear HB; have HO_6 := n0_; have HO_8 := n1_; have HO_10 := n2_; have HO_12 := n3_; have HB := n4_; clear n0_ n1_ n2_ n3_ n4_; (try clear hb); (try clear hb2); (try clear hk); (try clear hi)) | (go_at_call 39; (with_reducible refine (impl_EventsValid.calls a0 t664 _ (HLd.out.below (by repeat first|exact HB.out|apply bA|apply bN|apply bD)) A62.out).mono ?_); rintro e w84 ⟨rfl, hb⟩; have n0_ := Az.mk (Kd.Rb (by (with_reducible repeat first|apply Kd.Ra|apply Kd.Rn|apply Kd.Rw); exact HO_6.out) hb); have n1_ := Az.mk (Kd.Rb (by (with_reducible repeat first|apply Kd.Ra|apply Kd.Rn|apply Kd.Rw); exact HO_8.out) hb); have n2_ := Az.mk (Kd.Rb (by (with_reducible repeat first|apply Kd.Ra|apply Kd.Rn|apply Kd.Rw); exact HO_10.out) hb); have n3_ := Az.mk (Kd.Rb (by (with_reducible repeat first|apply Kd.Ra|apply Kd.Rn|apply Kd.Rw); exact HO_12.out) hb); have n4_ := Az.mk (bS (by repeat first|exact HB.out|apply bA|apply bN|apply bD) hb); clear HO_6; clear HO_8; clear HO_10; clear HO_12; clear HB; have HO_6 := n0_; have HO_8 := n1_; have HO_10 := n2_; have HO_12 := n3_; have HB := n4_; clear n0_ n1_ n2_ n3_ n4_; (try clear hb); (try clear hb2); (try clear hk); (try clear hi))))
        go_ret
        exact ⟨by first | rfl | (simp [errW_none, errW_some] <;> rfl) | (simp [*, errW_none, errW_some] <;> rfl), by repeat (first | (with_reducible first|exact HB.out|apply bA|apply bN|apply bD) | exact HB.out)⟩
      ·rw [if_neg c61] at H
       have c61b0 : (t652 == t644) = false := by simpa using c61
       (try (have c61b1 : decide (t652 = t644) = false := by simpa using c61))
       (try (have c61b2 : (t652 == t644) = false := by simpa using c61))
       (try (have c61b3 : ¬ (t652 = t644) := by simpa using c61))
       clear c61
       obtain rfl := Option.some.inj H
       obtain ⟨Ao85, co85, eo85⟩ := Kd.R_slice HO_10.out
       subst eo85
       obtain ⟨Ao86, co86, eo86⟩ := Kd.R_slice HO_12.out
       subst eo86
       go_wp2_with (first | (go_at_call 23; (with_reducible refine (laws_elSame.calls kj9 _ _ t651 _ _ t655 true _ ?side1 ?side2 ?side3 ?side4 A59.out).mono ?_); (case side1 => repeat (first | exact (Kd.R_reads' HO_10.out).2.2 | (with_reducible refine Kd.C_alloc ?_ _) | (with_reducible refine Kd.C_drewN ?_ _) | (with_reducible refine Kd.C_drew ?_))); (case side2 => exact (Kd.R_reads' HO_10.out).2.1); (case side3 => repeat (first | exact (Kd.R_reads' HO_12.out).2.2 | (with_reducible refine Kd.C_alloc ?_ _) | (with_reducible refine Kd.C_drewN ?_ _) | (with_reducible refine Kd.C_drew ?_))); (case side4 => exact (Kd.R_reads' HO_12.out).2.1); rintro e w87 ⟨rfl, hb⟩; have n0_ := Az.mk (Kd.Rb (by (with_reducible repeat first|apply Kd.Ra|apply Kd.Rn|apply Kd.Rw); exact HO_6.out) hb); have n1_ := Az.mk (Kd.Rb (by (with_reducible repeat first|apply Kd.Ra|apply Kd.Rn|apply Kd.Rw); exact HO_8.out) hb); have n2_ := Az.mk (Kd.Rb (by (with_reducible repeat first|apply Kd.Ra|apply Kd.Rn|apply Kd.Rw); exact HO_10.out) hb); have n3_ := Az.mk (Kd.Rb (by (with_reducible repeat first|apply Kd.Ra|apply Kd.Rn|apply Kd.Rw); exact HO_12.out) hb); have n4_ := Az.mk (bS (by repeat first|exact HB.out|apply bA|apply bN|apply bD) hb); clear HO_6; clear HO_8; clear HO_10; clear HO_12; clear HB; have HO_6 := n0_; have HO_8 := n1_; have HO_10 := n2_; have HO_12 := n3_; have HB := n4_; clear n0_ n1_ n2_ n3_ n4_; (try clear hb); (try clear hb2); (try clear hk); (try clear hi)))
       repeat (go_quiet (first | (go_at_call 23; (with_reducible refine (laws_elSame.calls kj9 _ _ t651 _ _ t655 true _ ?side1 ?side2 ?side3 ?side4 A59.out).mono ?_); (case side1 => repeat (first | exact (Kd.R_reads' HO_10.out).2.2 | (with_reducible refine Kd.C_alloc ?_ _) | (with_reducible refine Kd.C_drewN ?_ _) | (with_reducible refine Kd.C_drew ?_))); (case side2 => exact (Kd.R_reads' HO_10.out).2.1); (case side3 => repeat (first | exact (Kd.R_reads' HO_12.out).2.2 | (with_reducible refine Kd.C_alloc ?_ _) | (with_reducible refine Kd.C_drewN ?_ _) | (with_reducible refine Kd.C_drew ?_))); (case side4 => exact (Kd.R_reads' HO_12.out).2.1); rintro e w87 ⟨rfl, hb⟩; have n0_ := Az.mk (Kd.Rb (by (with_reducible repeat first|apply Kd.Ra|apply Kd.Rn|apply Kd.Rw); exact HO_6.out) hb); have n1_ := Az.mk (Kd.Rb (by (with_reducible repeat first|apply Kd.Ra|apply Kd.Rn|apply Kd.Rw); exact HO_8.out) hb); have n2_ := Az.mk (Kd.Rb (by (with_reducible repeat first|apply Kd.Ra|apply Kd.Rn|apply Kd.Rw); exact HO_10.out) hb); have n3_ := Az.mk (Kd.Rb (by (with_reducible repeat first|apply Kd.Ra|apply Kd.Rn|apply Kd.Rw); exact HO_12.out) hb); have n4_ := Az.mk (bS (by repeat first|exact HB.out|apply bA|apply bN|apply bD) hb); clear HO_6; clear HO_8; clear HO_10; clear HO_12; clear HB; have HO_6 := n0_; have HO_8 := n1_; have HO_10 := n2_; have HO_12 := n3_; have HB := n4_; clear n0_ n1_ n2_ n3_ n4_; (try clear hb); (try clear hb2); (try clear hk); (try clear hi))); try go_wp2_with (first | (go_at_call 23; (with_reducible refine (laws_elSame.calls kj9 _ _ t651 _ _ t655 true _ ?side1 ?side2 ?side3 ?side4 A59.out).mono ?_); (case side1 => repeat (first | exact (Kd.R_reads' HO_10.out).2.2 | (with_reducible refine Kd.C_alloc ?_ _) | (with_reducible refine Kd.C_drewN ?_ _) | (with_reducible refine Kd.C_drew ?_))); (case side2 => exact (Kd.R_reads' HO_10.out).2.1); (case side3 => repeat (first | exact (Kd.R_reads' HO_12.out).2.2 | (with_reducible refine Kd.C_alloc ?_ _) | (with_reducible refine Kd.C_drewN ?_ _) | (with_reducible refine Kd.C_drew ?_))); (case side4 => exact (Kd.R_reads' HO_12.out).2.1); rintro e w87 ⟨rfl, hb⟩; have n0_ := Az.mk (Kd.Rb (by (with_reducible repeat first|apply Kd.Ra|apply Kd.Rn|apply Kd.Rw); exact HO_6.out) hb); have n1_ := Az.mk (Kd.Rb (by (with_reducible repeat first|apply Kd.Ra|apply Kd.Rn|apply Kd.Rw); exact HO_8.out) hb); have n2_ := Az.mk (Kd.Rb (by (with_reducible repeat first|apply Kd.Ra|apply Kd.Rn|apply Kd.Rw); exact HO_10.out) hb); have n3_ := Az.mk (Kd.Rb (by (with_reducible repeat first|apply Kd.Ra|apply Kd.Rn|apply Kd.Rw); exact HO_12.out) hb); have n4_ := Az.mk (bS (by repeat first|exact HB.out|apply bA|apply bN|apply bD) hb); clear HO_6; clear HO_8; clear HO_10; clear HO_12; clear HB; have HO_6 := n0_; have HO_8 := n1_; have HO_10 := n2_; have HO_12 := n3_; have HB := n4_; clear n0_ n1_ n2_ n3_ n4_; (try clear hb); (try clear hb2); (try clear hk); (try clear hi))))
       go_ret
       exact ⟨by first | rfl | (simp [errW_none, errW_some] <;> rfl) | (simp [*, errW_none, errW_some] <;> rfl), by repeat (first | (with_reducible first|exact HB.out|apply bA|apply bN|apply bD) | exact HB.out)⟩
     ·replace c60 := Bool.eq_false_iff.mpr c60
      subst c60
      have H1 : (some false) = some r := by rw [if_neg (show ¬ (false = true) by decide)] at H; exact H
      clear H
      have H := H1
      clear H1
      obtain rfl := Option.some.inj H
      obtain ⟨Ao88, co88, eo88⟩ := Kd.R_slice HO_10.out
      subst eo88
      obtain ⟨Ao89, co89, eo89⟩ := Kd.R_slice HO_12.out
      subst eo89
      go_wp2_with (first | (go_at_call 23; (with_reducible refine (laws_elSame.calls kj9 _ _ t651 _ _ t655 false _ ?side1 ?side2 ?side3 ?side4 A59.out).mono ?_); (case side1 => repeat (first | exact (Kd.R_reads' HO_10.out).2.2 | (with_reducible refine Kd.C_alloc ?_ _) | (with_reducible refine Kd.C_drewN ?_ _) | (with_reducible refine Kd.C_drew ?_))); (case side2 => exact (Kd.R_reads' HO_10.out).2.1); (case side3 => repeat (first | exact (Kd.R_reads' HO_12.out).2.2 | (with_reducible refine Kd.C_alloc ?_ _) | (with_reducible refine Kd.C_drewN ?_ _) | (with_reducible refine Kd.C_drew ?_))); (case side4 => exact (Kd.R_reads' HO_12.out).2.1); rintro e w90 ⟨rfl, hb⟩; have n0_ := Az.mk (Kd.Rb (by (with_reducible repeat first|apply Kd.Ra|apply Kd.Rn|apply Kd.Rw); exact HO_6.out) hb); have n1_ := Az.mk (Kd.Rb (by (with_reducible repeat first|apply Kd.Ra|apply Kd.Rn|apply Kd.Rw); exact HO_8.out) hb); have n2_ := Az.mk (Kd.Rb (by (with_reducible repeat first|apply Kd.Ra|apply Kd.Rn|apply Kd.Rw); exact HO_10.out) hb); have n3_ := Az.mk (Kd.Rb (by (with_reducible repeat first|apply Kd.Ra|apply Kd.Rn|apply Kd.Rw); exact HO_12.out) hb); have n4_ := Az.mk (bS (by repeat first|exact HB.out|apply bA|apply bN|apply bD) hb); clear HO_6; clear HO_8; clear HO_10; clear HO_12; clear HB; have HO_6 := n0_; have HO_8 := n1_; have HO_10 := n2_; have HO_12 := n3_; have HB := n4_; clear n0_ n1_ n2_ n3_ n4_; (try clear hb); (try clear hb2); (try clear hk); (try clear hi)))
      repeat (go_quiet (first | (go_at_call 23; (with_reducible refine (laws_elSame.calls kj9 _ _ t651 _ _ t655 false _ ?side1 ?side2 ?side3 ?side4 A59.out).mono ?_); (case side1 => repeat (first | exact (Kd.R_reads' HO_10.out).2.2 | (with_reducible refine Kd.C_alloc ?_ _) | (with_reducible refine Kd.C_drewN ?_ _) | (with_reducible refine Kd.C_drew ?_))); (case side2 => exact (Kd.R_reads' HO_10.out).2.1); (case side3 => repeat (first | exact (Kd.R_reads' HO_12.out).2.2 | (with_reducible refine Kd.C_alloc ?_ _) | (with_reducible refine Kd.C_drewN ?_ _) | (with_reducible refine Kd.C_drew ?_))); (case side4 => exact (Kd.R_reads' HO_12.out).2.1); rintro e w90 ⟨rfl, hb⟩; have n0_ := Az.mk (Kd.Rb (by (with_reducible repeat first|apply Kd.Ra|apply Kd.Rn|apply Kd.Rw); exact HO_6.out) hb); have n1_ := Az.mk (Kd.Rb (by (with_reducible repeat first|apply Kd.Ra|apply Kd.Rn|apply Kd.Rw); exact HO_8.out) hb); have n2_ := Az.mk (Kd.Rb (by (with_reducible repeat first|apply Kd.Ra|apply Kd.Rn|apply Kd.Rw); exact HO_10.out) hb); have n3_ := Az.mk (Kd.Rb (by (with_reducible repeat first|apply Kd.Ra|apply Kd.Rn|apply Kd.Rw); exact HO_12.out) hb); have n4_ := Az.mk (bS (by repeat first|exact HB.out|apply bA|apply bN|apply bD) hb); clear HO_6; clear HO_8; clear HO_10; clear HO_12; clear HB; have HO_6 := n0_; have HO_8 := n1_; have HO_10 := n2_; have HO_12 := n3_; have HB := n4_; clear n0_ n1_ n2_ n3_ n4_; (try clear hb); (try clear hb2); (try clear hk); (try clear hi))); try go_wp2_with (first | (go_at_call 23; (with_reducible refine (laws_elSame.calls kj9 _ _ t651 _ _ t655 false _ ?side1 ?side2 ?side3 ?side4 A59.out).mono ?_); (case side1 => repeat (first | exact (Kd.R_reads' HO_10.out).2.2 | (with_reducible refine Kd.C_alloc ?_ _) | (with_reducible refine Kd.C_drewN ?_ _) | (with_reducible refine Kd.C_drew ?_))); (case side2 => exact (Kd.R_reads' HO_10.out).2.1); (case side3 => repeat (first | exact (Kd.R_reads' HO_12.out).2.2 | (with_reducible refine Kd.C_alloc ?_ _) | (with_reducible refine Kd.C_drewN ?_ _) | (with_reducible refine Kd.C_drew ?_))); (case side4 => exact (Kd.R_reads' HO_12.out).2.1); rintro e w90 ⟨rfl, hb⟩; have n0_ := Az.mk (Kd.Rb (by (with_reducible repeat first|apply Kd.Ra|apply Kd.Rn|apply Kd.Rw); exact HO_6.out) hb); have n1_ := Az.mk (Kd.Rb (by (with_reducible repeat first|apply Kd.Ra|apply Kd.Rn|apply Kd.Rw); exact HO_8.out) hb); have n2_ := Az.mk (Kd.Rb (by (with_reducible repeat first|apply Kd.Ra|apply Kd.Rn|apply Kd.Rw); exact HO_10.out) hb); have n3_ := Az.mk (Kd.Rb (by (with_reducible repeat first|apply Kd.Ra|apply Kd.Rn|apply Kd.Rw); exact HO_12.out) hb); have n4_ := Az.mk (bS (by repeat first|exact HB.out|apply bA|apply bN|apply bD) hb); clear HO_6; clear HO_8; clear HO_10; clear HO_12; clear HB; have HO_6 := n0_; have HO_8 := n1_; have HO_10 := n2_; have HO_12 := n3_; have HB := n4_; clear n0_ n1_ n2_ n3_ n4_; (try clear hb); (try clear hb2); (try clear hk); (try clear hi))))
      go_ret
      exact ⟨by first | rfl | (simp [errW_none, errW_some] <;> rfl) | (simp [*, errW_none, errW_some] <;> rfl), by repeat (first | (with_reducible first|exact HB.out|apply bA|apply bN|apply bD) | exact HB.out)⟩
    ·rw [if_neg c58] at H
     have c58b0 : (t644 == t648) = false := by simpa using c58
     (try (have c58b1 : decide (t644 = t648) = false := by simpa using c58))
     (try (have c58b2 : (t644 == t648) = false := by simpa using c58))
     (try (have c58b3 : ¬ (t644 = t648) := by simpa using c58))
     clear c58
     obtain rfl := Option.some.inj H
     go_wp2
     repeat (go_quiet (fail); try go_wp2)
     go_ret
     exact ⟨by first | rfl | (simp [errW_none, errW_some] <;> rfl) | (simp [*, errW_none, errW_some] <;> rfl), by repeat (first | (with_reducible first|exact HB.out|apply bA|apply bN|apply bD) | exact HB.out)⟩
   ·replace c57 := Bool.eq_false_iff.mpr c57
    subst c57
    have H1 : ((laws_elWords.f kj9 a0).bind fun t667 => (laws_FnLives.l0 kj9 t643 t647 t651 0 t667 t643 (t643.length : Int) 0)) = some r := by rw [if_neg (show ¬ (false = true) by decide)] at H; exact H
    clear H
    have H := H1
    clear H1
    replace H := Option.bind_eq_some_iff.mp H
    obtain ⟨t667, A910, H⟩ := H
    replace H : (laws_FnLives.l0 kj9 t643 t647 t651 0 t667 t643 (t643.length : Int) 0) = some r := H
    have A91 := Az.mk A910
    clear A910
    have H' := Az.mk H
    clear H
    go_wp2_with (first | (go_at_call 33; (with_reducible refine (laws_elWords.calls kj9 a0 t667 _ A91.out).mono ?_); rintro e w92 ⟨v668, rfl, ho0, hb⟩; have n0_ := Az.mk (Kd.Rb (by (with_reducible repeat first|apply Kd.Ra|apply Kd.Rn|apply Kd.Rw); exact HO_6.out) hb); have n1_ := Az.mk (Kd.Rb (by (with_reducible repeat first|apply Kd.Ra|apply Kd.Rn|apply Kd.Rw); exact HO_8.out) hb); have n2_ := Az.mk (Kd.Rb (by (with_reducible repeat first|apply Kd.Ra|apply Kd.Rn|apply Kd.Rw); exact HO_10.out) hb); have n3_ := Az.mk (Kd.Rb (by (with_reducible repeat first|apply Kd.Ra|apply Kd.Rn|apply Kd.Rw); exact HO_12.out) hb); have n4_ := Az.mk (Kd.R_lower ho0 (bZ (by repeat first|exact HB.out|apply bA|apply bN|apply bD))); have n5_ := Az.mk (bS (by repeat first|exact HB.out|apply bA|apply bN|apply bD) hb); clear HO_6; clear HO_8; clear HO_10; clear HO_12; clear HB; have HO_6 := n0_; have HO_8 := n1_; have HO_10 := n2_; have HO_12 := n3_; have HO669 := n4_; have HB := n5_; clear n0_ n1_ n2_ n3_ n4_ n5_; (try clear hb); (try clear hb2); (try clear hk); (try clear hi); (try clear ho0); obtain ⟨Ao93, co93, eo93⟩ := Kd.R_slice HO_6.out; subst eo93))
    repeat (go_quiet (first | (go_at_call 33; (with_reducible refine (laws_elWords.calls kj9 a0 t667 _ A91.out).mono ?_); rintro e w92 ⟨v668, rfl, ho0, hb⟩; have n0_ := Az.mk (Kd.Rb (by (with_reducible repeat first|apply Kd.Ra|apply Kd.Rn|apply Kd.Rw); exact HO_6.out) hb); have n1_ := Az.mk (Kd.Rb (by (with_reducible repeat first|apply Kd.Ra|apply Kd.Rn|apply Kd.Rw); exact HO_8.out) hb); have n2_ := Az.mk (Kd.Rb (by (with_reducible repeat first|apply Kd.Ra|apply Kd.Rn|apply Kd.Rw); exact HO_10.out) hb); have n3_ := Az.mk (Kd.Rb (by (with_reducible repeat first|apply Kd.Ra|apply Kd.Rn|apply Kd.Rw); exact HO_12.out) hb); have n4_ := Az.mk (Kd.R_lower ho0 (bZ (by repeat first|exact HB.out|apply bA|apply bN|apply bD))); have n5_ := Az.mk (bS (by repeat first|exact HB.out|apply bA|apply bN|apply bD) hb); clear HO_6; clear HO_8; clear HO_10; clear HO_12; clear HB; have HO_6 := n0_; have HO_8 := n1_; have HO_10 := n2_; have HO_12 := n3_; have HO669 := n4_; have HB := n5_; clear n0_ n1_ n2_ n3_ n4_ n5_; (try clear hb); (try clear hb2); (try clear hk); (try clear hi); (try clear ho0); obtain ⟨Ao93, co93, eo93⟩ := Kd.R_slice HO_6.out; subst eo93)); try go_wp2_with (first | (go_at_call 33; (with_reducible refine (laws_elWords.calls kj9 a0 t667 _ A91.out).mono ?_); rintro e w92 ⟨v668, rfl, ho0, hb⟩; have n0_ := Az.mk (Kd.Rb (by (with_reducible repeat first|apply Kd.Ra|apply Kd.Rn|apply Kd.Rw); exact HO_6.out) hb); have n1_ := Az.mk (Kd.Rb (by (with_reducible repeat first|apply Kd.Ra|apply Kd.Rn|apply Kd.Rw); exact HO_8.out) hb); have n2_ := Az.mk (Kd.Rb (by (with_reducible repeat first|apply Kd.Ra|apply Kd.Rn|apply Kd.Rw); exact HO_10.out) hb); have n3_ := Az.mk (Kd.Rb (by (with_reducible repeat first|apply Kd.Ra|apply Kd.Rn|apply Kd.Rw); exact HO_12.out) hb); have n4_ := Az.mk (Kd.R_lower ho0 (bZ (by repeat first|exact HB.out|apply bA|apply bN|apply bD))); have n5_ := Az.mk (bS (by repeat first|exact HB.out|apply bA|apply bN|apply bD) hb); clear HO_6; clear HO_8; clear HO_10; clear HO_12; clear HB; have HO_6 := n0_; have HO_8 := n1_; have HO_10 := n2_; have HO_12 := n3_; have HO669 := n4_; have HB := n5_; clear n0_ n1_ n2_ n3_ n4_ n5_; (try clear hb); (try clear hb2); (try clear hk); (try clear hi); (try clear ho0); obtain ⟨Ao93, co93, eo93⟩ := Kd.R_slice HO_6.out; subst eo93)))
    go_loopg [15, 126] kj9 (fun kq v15 v126 w' => ∃ (x15_3 : Int) (x126_3 : Int), v15 = .int .i64 x15_3 ∧ v126 = .int .i64 x126_3 ∧ Az (laws_FnLives.l0 kq t643 t647 t651 x15_3 t667 t643 (t643.length : Int) x126_3 = some r) ∧ Az (kq ≤ kj9) ∧ Az (Kd.R k31 31 w' w.heap.size (fun k_ => some k_ ≠ (v649 : Value).ownBlock) (.slice Ao93 t643.length co93) t643) ∧ Az (Kd.R k31 31 w' w.heap.size (fun k_ => some k_ ≠ ((.slice Ao93 t643.length co93) : Value).ownBlock ∧ some k_ ≠ ((.slice Ao93 t643.length co93) : Value).ownBlock) v649 t647) ∧ Az (Kd.R (Kd.int .i64) 3 w' w.heap.size (fun _ => True) v653 t651) ∧ Az (Kd.R Kd.string 9 w' w.heap.size (fun _ => True) v668 t667) ∧ Az (Kd.R k31 31 w' w.heap.size (fun k_ => some k_ ≠ (v649 : Value).ownBlock) (.slice Ao93 t643.length co93) t643) ∧ Az (Below w.heap.size w w'))
    case atStart => exact ⟨(0), (0), (by first | rfl | (simp; done) | (simp [*]; done)), (by first | rfl | (simp; done) | (simp [*]; done)), H', ⟨Nat.le_refl _⟩, ⟨by (with_reducible repeat first|apply Kd.Ra|apply Kd.Rn|apply Kd.Rw); exact HO_6.out⟩, ⟨by (with_reducible repeat first|apply Kd.Ra|apply Kd.Rn|apply Kd.Rw); exact Kd.R_mono HO_8.out (fun _ hk => ⟨hk, hk⟩)⟩, ⟨by (with_reducible repeat first|apply Kd.Ra|apply Kd.Rn|apply Kd.Rw); exact Kd.R_mono HO_10.out (fun _ hk => trivial)⟩, ⟨by (with_reducible repeat first|apply Kd.Ra|apply Kd.Rn|apply Kd.Rw); exact HO669.out⟩, ⟨by (with_reducible repeat first|apply Kd.Ra|apply Kd.Rn|apply Kd.Rw); exact HO_6.out⟩, ⟨by repeat (first | (with_reducible first|exact HB.out|apply bA|apply bN|apply bD) | exact HB.out)⟩⟩
    case round => as_aux_lemma =>
     clear H'
     try clear c1
     try clear c2
     try clear p2
     try clear c3
     try clear c4
     try clear c4b0
     try clear c4b1
     try clear c5
     try clear c6
     try clear c15
     try clear c15b0
     try clear c15b1
     try clear c15b2
     try clear c17
     try clear c18
     try clear c18b0
     try clear c18b1
     try clear c18b2
     try clear c23
     try clear c23b0
     try clear c23b1
     try clear c23b2
     try clear c28
     try clear c28b0
     try clear c28b1
     try clear c28b2
     try clear c31
     try clear c31b0
     try clear c31b1
     try clear c31b2
     try clear c57
     try clear c58
     try clear c58b0
     try clear c58b1
     try clear c58b2
     try clear c60
     try clear c61
     try clear c61b0
     try clear c61b1
     try clear c61b2
     try clear c63
     try clear c63b0
     try clear c63b1
     try clear c63b2
     try clear c64
     try clear c64b0
     try clear c64b1
     try clear c64b2
     try clear p2
     obtain ⟨x15_3, x126_3, rfl, rfl, HA, HK3, HO_6, HO_8, HO_10, HO_16, HO_124, HB⟩ := hrel
     cases gk with
     | zero => exact absurd HA.out (by simp [laws_FnLives.l0])
     | succ k3 =>
      have H := HA.out
      clear HA
      simp only [laws_FnLives.l0] at H
      by_cases c94 : x126_3 < (t643.length : Int)
      ·rw [if_pos c94] at H
       have c94b0 : decide (x126_3 < (t643.length : Int)) = true := decide_eq_true c94
       clear c94
       by_cases c95 : 0 ≤ x126_3
       ·rw [if_pos c95] at H
        have c95b0 : decide (0 ≤ x126_3) = true := decide_eq_true c95
        clear c95
        by_cases c96 : x126_3 < (t643.length : Int)
        ·rw [if_pos c96] at H
         have c96b0 : decide (x126_3 < (t643.length : Int)) = true := decide_eq_true c96
         clear c96
         have HC97 := Az.mk H
         clear H
         have p670 : 0 ≤ (x126_3 : Int) := of_decide_eq_true (by first|(with_reducible assumption)|assumption)
         have q670 : x126_3 < (t643.length : Int) := of_decide_eq_true (by first|(with_reducible assumption)|assumption)
         obtain ⟨ad670, e670, hx670_0, hx670_1, hx670_2⟩ := at_T31 (Kd.R_reads' HO_124.out).2.2 x126_3 p670 q670
         cases e670
         replace p670 := eq_true p670
         replace q670 := eq_true q670
         go_upto_region 16 with (first | ((with_reducible refine gate_dst (N := 18) rfl ?_); (try (refine gate_guard (by rfl) ?_; dsimp only)); refine box_event ?hg (N := 18) ?hd (cs := #[.int .i64 0, .int .i64 0, .int .i64 0]) (t := 31) ?hr ?_; (case hd => rfl); (case hg => rfl); (case hr => first | (go_simp; done) | (go_simp; rfl)); intro gb671 hg w98 hbox hb; have n0_ := Az.mk (Kd.Rb (Kd.R_elderB (by (with_reducible repeat first|apply Kd.Ra|apply Kd.Rn|apply Kd.Rw); exact HO_6.out) gb671 (Nat.le_of_eq hg.symm)) hb); have n1_ := Az.mk (Kd.Rb (Kd.R_elderB (by (with_reducible repeat first|apply Kd.Ra|apply Kd.Rn|apply Kd.Rw); exact HO_8.out) gb671 (Nat.le_of_eq hg.symm)) hb); have n2_ := Az.mk (Kd.Rb (by (with_reducible repeat first|apply Kd.Ra|apply Kd.Rn|apply Kd.Rw); exact HO_10.out) hb); have n3_ := Az.mk (Kd.Rb (by (with_reducible repeat first|apply Kd.Ra|apply Kd.Rn|apply Kd.Rw); exact HO_16.out) hb); have n4_ := Az.mk (Kd.Rb (Kd.R_elderB (by (with_reducible repeat first|apply Kd.Ra|apply Kd.Rn|apply Kd.Rw); exact HO_124.out) gb671 (Nat.le_of_eq hg.symm)) hb); have n5_ := Az.mk (bS (by repeat first|exact HB.out|apply bA|apply bN|apply bD) hb); have n6_ := Az.mk (hbox); have n7_ := Az.mk ((by rw [hg]; exact (bZ (by repeat first|exact HB.out|apply bA|apply bN|apply bD)) : w.heap.size ≤ gb671)); have n8_ := Az.mk ((by rw [hg]; exact (bZ (by repeat first|exact HB.out|apply bA|apply bN|apply bD)) : w.heap.size ≤ gb671)); clear HO_6; clear HO_8; clear HO_10; clear HO_16; clear HO_124; clear HB; have HO_6 := n0_; have HO_8 := n1_; have HO_10 := n2_; have HO_16 := n3_; have HO_124 := n4_; have HB := n5_; have BK671 := n6_; have GW671 := n7_; have GE671 := n8_; clear n0_ n1_ n2_ n3_ n4_ n5_ n6_ n7_ n8_; clear hb hbox hg; have hcz99_0 : w98.cell? ⟨gb671, 0, none⟩ = some (.int .i64 0) := (blk_cell BK671.out 0).trans rfl; have hcz99_1 : w98.cell? ⟨gb671, 1, none⟩ = some (.int .i64 0) := (blk_cell BK671.out 1).trans rfl; have hcz99_2 : w98.cell? ⟨gb671, 2, none⟩ = some (.int .i64 0) := (blk_cell BK671.out 2).trans rfl; have hfz99_0 := blk_frozen BK671.out 0; have hfz99_1 := blk_frozen BK671.out 1; have hfz99_2 := blk_frozen BK671.out 2))
         repeat (go_quiet (first | ((with_reducible refine gate_dst (N := 18) rfl ?_); (try (refine gate_guard (by rfl) ?_; dsimp only)); refine box_event ?hg (N := 18) ?hd (cs := #[.int .i64 0, .int .i64 0, .int .i64 0]) (t := 31) ?hr ?_; (case hd => rfl); (case hg => rfl); (case hr => first | (go_simp; done) | (go_simp; rfl)); intro gb671 hg w98 hbox hb; have n0_ := Az.mk (Kd.Rb (Kd.R_elderB (by (with_reducible repeat first|apply Kd.Ra|apply Kd.Rn|apply Kd.Rw); exact HO_6.out) gb671 (Nat.le_of_eq hg.symm)) hb); have n1_ := Az.mk (Kd.Rb (Kd.R_elderB (by (with_reducible repeat first|apply Kd.Ra|apply Kd.Rn|apply Kd.Rw); exact HO_8.out) gb671 (Nat.le_of_eq hg.symm)) hb); have n2_ := Az.mk (Kd.Rb (by (with_reducible repeat first|apply Kd.Ra|apply Kd.Rn|apply Kd.Rw); exact HO_10.out) hb); have n3_ := Az.mk (Kd.Rb (by (with_reducible repeat first|apply Kd.Ra|apply Kd.Rn|apply Kd.Rw); exact HO_16.out) hb); have n4_ := Az.mk (Kd.Rb (Kd.R_elderB (by (with_reducible repeat first|apply Kd.Ra|apply Kd.Rn|apply Kd.Rw); exact HO_124.out) gb671 (Nat.le_of_eq hg.symm)) hb); have n5_ := Az.mk (bS (by repeat first|exact HB.out|apply bA|apply bN|apply bD) hb); have n6_ := Az.mk (hbox); have n7_ := Az.mk ((by rw [hg]; exact (bZ (by repeat first|exact HB.out|apply bA|apply bN|apply bD)) : w.heap.size ≤ gb671)); have n8_ := Az.mk ((by rw [hg]; exact (bZ (by repeat first|exact HB.out|apply bA|apply bN|apply bD)) : w.heap.size ≤ gb671)); clear HO_6; clear HO_8; clear HO_10; clear HO_16; clear HO_124; clear HB; have HO_6 := n0_; have HO_8 := n1_; have HO_10 := n2_; have HO_16 := n3_; have HO_124 := n4_; have HB := n5_; have BK671 := n6_; have GW671 := n7_; have GE671 := n8_; clear n0_ n1_ n2_ n3_ n4_ n5_ n6_ n7_ n8_; clear hb hbox hg; have hcz99_0 : w98.cell? ⟨gb671, 0, none⟩ = some (.int .i64 0) := (blk_cell BK671.out 0).trans rfl; have hcz99_1 : w98.cell? ⟨gb671, 1, none⟩ = some (.int .i64 0) := (blk_cell BK671.out 1).trans rfl; have hcz99_2 : w98.cell? ⟨gb671, 2, none⟩ = some (.int .i64 0) := (blk_cell BK671.out 2).trans rfl; have hfz99_0 := blk_frozen BK671.out 0; have hfz99_1 := blk_frozen BK671.out 1; have hfz99_2 := blk_frozen BK671.out 2)); go_upto_region 16 with (first | ((with_reducible refine gate_dst (N := 18) rfl ?_); (try (refine gate_guard (by rfl) ?_; dsimp only)); refine box_event ?hg (N := 18) ?hd (cs := #[.int .i64 0, .int .i64 0, .int .i64 0]) (t := 31) ?hr ?_; (case hd => rfl); (case hg => rfl); (case hr => first | (go_simp; done) | (go_simp; rfl)); intro gb671 hg w98 hbox hb; have n0_ := Az.mk (Kd.Rb (Kd.R_elderB (by (with_reducible repeat first|apply Kd.Ra|apply Kd.Rn|apply Kd.Rw); exact HO_6.out) gb671 (Nat.le_of_eq hg.symm)) hb); have n1_ := Az.mk (Kd.Rb (Kd.R_elderB (by (with_reducible repeat first|apply Kd.Ra|apply Kd.Rn|apply Kd.Rw); exact HO_8.out) gb671 (Nat.le_of_eq hg.symm)) hb); have n2_ := Az.mk (Kd.Rb (by (with_reducible repeat first|apply Kd.Ra|apply Kd.Rn|apply Kd.Rw); exact HO_10.out) hb); have n3_ := Az.mk (Kd.Rb (by (with_reducible repeat first|apply Kd.Ra|apply Kd.Rn|apply Kd.Rw); exact HO_16.out) hb); have n4_ := Az.mk (Kd.Rb (Kd.R_elderB (by (with_reducible repeat first|apply Kd.Ra|apply Kd.Rn|apply Kd.Rw); exact HO_124.out) gb671 (Nat.le_of_eq hg.symm)) hb); have n5_ := Az.mk (bS (by repeat first|exact HB.out|apply bA|apply bN|apply bD) hb); have n6_ := Az.mk (hbox); have n7_ := Az.mk ((by rw [hg]; exact (bZ (by repeat first|exact HB.out|apply bA|apply bN|apply bD)) : w.heap.size ≤ gb671)); have n8_ := Az.mk ((by rw [hg]; exact (bZ (by repeat first|exact HB.out|apply bA|apply bN|apply bD)) : w.heap.size ≤ gb671)); clear HO_6; clear HO_8; clear HO_10; clear HO_16; clear HO_124; clear HB; have HO_6 := n0_; have HO_8 := n1_; have HO_10 := n2_; have HO_16 := n3_; have HO_124 := n4_; have HB := n5_; have BK671 := n6_; have GW671 := n7_; have GE671 := n8_; clear n0_ n1_ n2_ n3_ n4_ n5_ n6_ n7_ n8_; clear hb hbox hg; have hcz99_0 : w98.cell? ⟨gb671, 0, none⟩ = some (.int .i64 0) := (blk_cell BK671.out 0).trans rfl; have hcz99_1 : w98.cell? ⟨gb671, 1, none⟩ = some (.int .i64 0) := (blk_cell BK671.out 1).trans rfl; have hcz99_2 : w98.cell? ⟨gb671, 2, none⟩ = some (.int .i64 0) := (blk_cell BK671.out 2).trans rfl; have hfz99_0 := blk_frozen BK671.out 0; have hfz99_1 := blk_frozen BK671.out 1; have hfz99_2 := blk_frozen BK671.out 2)))
         (try simp only [Act.put, List.setIfInBounds_toArray, List.set_cons_zero, List.set_cons_succ])
         go_cut [167] (fun v167 wc => ∃ (kq : Nat) (x167_96 : Bool), v167 = .bool x167_96 ∧ Az (laws_FnLives.j3 kq t643 t647 t651 x15_3 t667 t643 (t643.length : Int) x126_3 x167_96 ((rd_T31 t643 x126_3).f0) ((rd_T31 t643 x126_3).f1) ((rd_T31 t643 x126_3).f2) = some r) ∧ Az (kq ≤ k3) ∧ Az (Kd.R k31 31 wc w.heap.size (fun k_ => some k_ ≠ (v649 : Value).ownBlock ∧ k_ ≠ gb671) (.slice (some ad670) t643.length co93) t643) ∧ Az (Kd.R k31 31 wc w.heap.size (fun k_ => some k_ ≠ ((.slice (some ad670) t643.length co93) : Value).ownBlock ∧ some k_ ≠ ((.slice (some ad670) t643.length co93) : Value).ownBlock ∧ k_ ≠ gb671) v649 t647) ∧ Az (Kd.R (Kd.int .i64) 3 wc w.heap.size (fun _ => True) v653 t651) ∧ Az (Kd.R Kd.string 9 wc w.heap.size (fun _ => True) v668 t667) ∧ Az (Kd.R k31 31 wc w.heap.size (fun k_ => some k_ ≠ (v649 : Value).ownBlock ∧ k_ ≠ gb671) (.slice (some ad670) t643.length co93) t643) ∧ Az (wc.heap[gb671]? = some (.cells #[.int .i64 ((rd_T31 t643 x126_3).f0), .int .i64 ((rd_T31 t643 x126_3).f1), .int .i64 ((rd_T31 t643 x126_3).f2)] 31 (0, 0))) ∧ Az (Below w.heap.size w wc))
         case first => as_aux_lemma =>
          have H := HC97.out
          clear HC97
          by_cases c100 : x126_3 < (t647.length : Int)
          ·rw [if_pos c100] at H
           have c100b0 : decide (x126_3 < (t647.length : Int)) = true := decide_eq_true c100
           clear c100
           (first | rw [c100b0] | (simp only [i64_w, i32_w]; rw [c100b0]) | skip)
           by_cases c101 : (!(((rd_T31 t643 x126_3).f0) == ((rd_T31 t647 x126_3).f0)) || (!(((rd_T31 t643 x126_3).f1) == ((rd_T31 t647 x126_3).f1)) || (!(((rd_T31 t643 x126_3).f2) == ((rd_T31 t647 x126_3).f2))))) = true
           ·rw [if_pos c101] at H
            have c101b0 : (!(((rd_T31 t643 x126_3).f0) == ((rd_T31 t647 x126_3).f0)) || (!(((rd_T31 t643 x126_3).f1) == ((rd_T31 t647 x126_3).f1)) || (!(((rd_T31 t643 x126_3).f2) == ((rd_T31 t647 x126_3).f2))))) = true := c101
            clear c101
            have H' := Az.mk H
            clear H
            have hcz102_0 : w98.cell? ⟨gb671, 0, none⟩ = some (.int .i64 0) := (blk_cell BK671.out 0).trans rfl
            have hcz102_1 : w98.cell? ⟨gb671, 1, none⟩ = some (.int .i64 0) := (blk_cell BK671.out 1).trans rfl
            have hcz102_2 : w98.cell? ⟨gb671, 2, none⟩ = some (.int .i64 0) := (blk_cell BK671.out 2).trans rfl
            have hfz102_0 := blk_frozen BK671.out 0
            have hfz102_1 := blk_frozen BK671.out 1
            have hfz102_2 := blk_frozen BK671.out 2
            obtain ⟨Ao103, co103, eo103⟩ := Kd.R_slice HO_8.out
            subst eo103
            have p672 : 0 ≤ (x126_3 : Int) := of_decide_eq_true (by first|(with_reducible assumption)|assumption)
            have q672 : x126_3 < (t647.length : Int) := of_decide_eq_true (by first|(with_reducible assumption)|assumption)
            obtain ⟨ad672, e672, hx672_0, hx672_1, hx672_2⟩ := at_T31 (Kd.R_reads' HO_8.out).2.2 x126_3 p672 q672
            cases e672
            have hn672_0 : ad672.block ≠ gb671 := Kd.own_blk (by first | exact Kd.R_ne HO_8.out BK671.out (by decide) | exact fun e_ => (HO_8.out.1 _ e_.symm).2 rfl)
            have hn672_1 : ad672.block ≠ gb671 := Kd.own_blk (by first | exact Kd.R_ne HO_8.out BK671.out (by decide) | exact fun e_ => (HO_8.out.1 _ e_.symm).2 rfl)
            have hn672_2 : ad672.block ≠ gb671 := Kd.own_blk (by first | exact Kd.R_ne HO_8.out BK671.out (by decide) | exact fun e_ => (HO_8.out.1 _ e_.symm).2 rfl)
            replace hx672_0 := (cell_far (p := ⟨gb671, 0, none⟩) (by first | (rw [add_block]; exact hn672_0) | (show (Addr.add _ _).block ≠ _; rw [add_block]; exact hn672_0) | exact hn672_0) (.int .i64 ((rd_T31 t643 x126_3).f0))).trans hx672_0
            replace hx672_1 := (cell_far (p := ⟨gb671, 0, none⟩) (by first | (rw [add_block]; exact hn672_0) | (show (Addr.add _ _).block ≠ _; rw [add_block]; exact hn672_0) | exact hn672_0) (.int .i64 ((rd_T31 t643 x126_3).f0))).trans hx672_1
            replace hx672_2 := (cell_far (p := ⟨gb671, 0, none⟩) (by first | (rw [add_block]; exact hn672_0) | (show (Addr.add _ _).block ≠ _; rw [add_block]; exact hn672_0) | exact hn672_0) (.int .i64 ((rd_T31 t643 x126_3).f0))).trans hx672_2
            replace hx672_0 := (cell_far (p := ⟨gb671, 1, none⟩) (by first | (rw [add_block]; exact hn672_1) | (show (Addr.add _ _).block ≠ _; rw [add_block]; exact hn672_1) | exact hn672_1) (.int .i64 ((rd_T31 t643 x126_3).f1))).trans hx672_0
            replace hx672_1 := (cell_far (p := ⟨gb671, 1, none⟩) (by first | (rw [add_block]; exact hn672_1) | (show (Addr.add _ _).block ≠ _; rw [add_block]; exact hn672_1) | exact hn672_1) (.int .i64 ((rd_T31 t643 x126_3).f1))).trans hx672_1
            replace hx672_2 := (cell_far (p := ⟨gb671, 1, none⟩) (by first | (rw [add_block]; exact hn672_1) | (show (Addr.add _ _).block ≠ _; rw [add_block]; exact hn672_1) | exact hn672_1) (.int .i64 ((rd_T31 t643 x126_3).f1))).trans hx672_2
            replace hx672_0 := (cell_far (p := ⟨gb671, 2, none⟩) (by first | (rw [add_block]; exact hn672_2) | (show (Addr.add _ _).block ≠ _; rw [add_block]; exact hn672_2) | exact hn672_2) (.int .i64 ((rd_T31 t643 x126_3).f2))).trans hx672_0
            replace hx672_1 := (cell_far (p := ⟨gb671, 2, none⟩) (by first | (rw [add_block]; exact hn672_2) | (show (Addr.add _ _).block ≠ _; rw [add_block]; exact hn672_2) | exact hn672_2) (.int .i64 ((rd_T31 t643 x126_3).f2))).trans hx672_1
            replace hx672_2 := (cell_far (p := ⟨gb671, 2, none⟩) (by first | (rw [add_block]; exact hn672_2) | (show (Addr.add _ _).block ≠ _; rw [add_block]; exact hn672_2) | exact hn672_2) (.int .i64 ((rd_T31 t643 x126_3).f2))).trans hx672_2
            (try have hy672_0 := fun (n_ : Nat) => (show (((((w98.drewN n_).setCell ⟨gb671, 0, none⟩ (.int .i64 ((rd_T31 t643 x126_3).f0))).setCell ⟨gb671, 1, none⟩ (.int .i64 ((rd_T31 t643 x126_3).f1))).setCell ⟨gb671, 2, none⟩ (.int .i64 ((rd_T31 t643 x126_3).f2)))).cell? _ = some _ from hx672_0))
            (try have hy672_1 := fun (n_ : Nat) => (show (((((w98.drewN n_).setCell ⟨gb671, 0, none⟩ (.int .i64 ((rd_T31 t643 x126_3).f0))).setCell ⟨gb671, 1, none⟩ (.int .i64 ((rd_T31 t643 x126_3).f1))).setCell ⟨gb671, 2, none⟩ (.int .i64 ((rd_T31 t643 x126_3).f2)))).cell? _ = some _ from hx672_1))
            (try have hy672_2 := fun (n_ : Nat) => (show (((((w98.drewN n_).setCell ⟨gb671, 0, none⟩ (.int .i64 ((rd_T31 t643 x126_3).f0))).setCell ⟨gb671, 1, none⟩ (.int .i64 ((rd_T31 t643 x126_3).f1))).setCell ⟨gb671, 2, none⟩ (.int .i64 ((rd_T31 t643 x126_3).f2)))).cell? _ = some _ from hx672_2))
            clear hn672_0
            clear hn672_1
            clear hn672_2
            replace p672 := eq_true p672
            replace q672 := eq_true q672
            have hnT := fun W : World => neq_T31 W (rd_T31 t643 x126_3).f0 (rd_T31 t643 x126_3).f1 (rd_T31 t643 x126_3).f2 (rd_T31 t647 x126_3).f0 (rd_T31 t647 x126_3).f1 (rd_T31 t647 x126_3).f2
            have hgT := fun (W : World) (x y : Operand) => eqGuard_T31 W x y #[.int .i64 (rd_T31 t643 x126_3).f0, .int .i64 (rd_T31 t643 x126_3).f1, .int .i64 (rd_T31 t643 x126_3).f2] #[.int .i64 (rd_T31 t647 x126_3).f0, .int .i64 (rd_T31 t647 x126_3).f1, .int .i64 (rd_T31 t647 x126_3).f2]
            go_wp2
            repeat (go_quiet (fail); try go_wp2)
            go_meet
            case rel => exact ⟨_, (true), (by first | rfl | (simp; done) | (simp [*]; done)), H', ⟨by have := HJ2.out; have := HJ9.out; have := HK3.out; first | omega | exact Nat.le_refl _⟩, ⟨by (with_reducible repeat first|apply Kd.Ra|apply Kd.Rn|apply Kd.Rw); exact Kd.R_mono (Kd.R_far (p := ⟨gb671, 2, none⟩) (Kd.R_far (p := ⟨gb671, 1, none⟩) (Kd.R_far (p := ⟨gb671, 0, none⟩) (Kd.R_mono HO_6.out (fun k_ hk => (⟨hk, hk.2⟩ : _ ∧ k_ ≠ gb671))) (fun _ hk => hk.2) (.int .i64 ((rd_T31 t643 x126_3).f0))) (fun _ hk => hk.2) (.int .i64 ((rd_T31 t643 x126_3).f1))) (fun _ hk => hk.2) (.int .i64 ((rd_T31 t643 x126_3).f2))) (fun _ hk => ⟨hk.1.1, hk.1.2⟩)⟩, ⟨by (with_reducible repeat first|apply Kd.Ra|apply Kd.Rn|apply Kd.Rw); exact Kd.R_mono (Kd.R_far (p := ⟨gb671, 2, none⟩) (Kd.R_far (p := ⟨gb671, 1, none⟩) (Kd.R_far (p := ⟨gb671, 0, none⟩) (Kd.R_mono HO_8.out (fun k_ hk => (⟨hk, hk.2⟩ : _ ∧ k_ ≠ gb671))) (fun _ hk => hk.2) (.int .i64 ((rd_T31 t643 x126_3).f0))) (fun _ hk => hk.2) (.int .i64 ((rd_T31 t643 x126_3).f1))) (fun _ hk => hk.2) (.int .i64 ((rd_T31 t643 x126_3).f2))) (fun _ hk => ⟨hk.1.1.1, ⟨hk.1.1.2, hk.1.2⟩⟩)⟩, ⟨by (with_reducible repeat first|apply Kd.Ra|apply Kd.Rn|apply Kd.Rw); exact Kd.R_mono (Kd.R_far (p := ⟨gb671, 2, none⟩) (Kd.R_far (p := ⟨gb671, 1, none⟩) (Kd.R_far (p := ⟨gb671, 0, none⟩) (Kd.R_types HO_10.out BK671.out (by decide)) (fun _ hk => hk.2) (.int .i64 ((rd_T31 t643 x126_3).f0))) (fun _ hk => hk.2) (.int .i64 ((rd_T31 t643 x126_3).f1))) (fun _ hk => hk.2) (.int .i64 ((rd_T31 t643 x126_3).f2))) (fun _ hk => trivial)⟩, ⟨by (with_reducible repeat first|apply Kd.Ra|apply Kd.Rn|apply Kd.Rw); exact Kd.R_mono (Kd.R_far (p := ⟨gb671, 2, none⟩) (Kd.R_far (p := ⟨gb671, 1, none⟩) (Kd.R_far (p := ⟨gb671, 0, none⟩) (Kd.R_types HO_16.out BK671.out (by decide)) (fun _ hk => hk.2) (.int .i64 ((rd_T31 t643 x126_3).f0))) (fun _ hk => hk.2) (.int .i64 ((rd_T31 t643 x126_3).f1))) (fun _ hk => hk.2) (.int .i64 ((rd_T31 t643 x126_3).f2))) (fun _ hk => trivial)⟩, ⟨by (with_reducible repeat first|apply Kd.Ra|apply Kd.Rn|apply Kd.Rw); exact Kd.R_mono (Kd.R_far (p := ⟨gb671, 2, none⟩) (Kd.R_far (p := ⟨gb671, 1, none⟩) (Kd.R_far (p := ⟨gb671, 0, none⟩) (Kd.R_mono HO_124.out (fun k_ hk => (⟨hk, hk.2⟩ : _ ∧ k_ ≠ gb671))) (fun _ hk => hk.2) (.int .i64 ((rd_T31 t643 x126_3).f0))) (fun _ hk => hk.2) (.int .i64 ((rd_T31 t643 x126_3).f1))) (fun _ hk => hk.2) (.int .i64 ((rd_T31 t643 x126_3).f2))) (fun _ hk => ⟨hk.1.1, hk.1.2⟩)⟩, ⟨by (with_reducible repeat first|refine blN ?_ _|refine bl1 ?_|refine blA ?_ _); refine blk_put (cs := #[.int .i64 ((rd_T31 t643 x126_3).f0), .int .i64 ((rd_T31 t643 x126_3).f1), .int .i64 0]) ?_ 2 _ rfl; (with_reducible repeat first|refine blN ?_ _|refine bl1 ?_|refine blA ?_ _); refine blk_put (cs := #[.int .i64 ((rd_T31 t643 x126_3).f0), .int .i64 0, .int .i64 0]) ?_ 1 _ rfl; (with_reducible repeat first|refine blN ?_ _|refine bl1 ?_|refine blA ?_ _); refine blk_put (cs := #[.int .i64 0, .int .i64 0, .int .i64 0]) ?_ 0 _ rfl; (with_reducible repeat first|refine blN ?_ _|refine bl1 ?_|refine blA ?_ _); exact BK671.out⟩, ⟨by repeat (first | (with_reducible first|exact HB.out|apply bA|apply bN|apply bD | refine below_set ?_ GE671.out) | exact HB.out)⟩⟩
           ·rw [if_neg c101] at H
            have c101b0 : (!(((rd_T31 t643 x126_3).f0) == ((rd_T31 t647 x126_3).f0)) || (!(((rd_T31 t643 x126_3).f1) == ((rd_T31 t647 x126_3).f1)) || (!(((rd_T31 t643 x126_3).f2) == ((rd_T31 t647 x126_3).f2))))) = false := by simpa using c101
            clear c101
            by_cases c104 : 0 ≤ ((rd_T31 t643 x126_3).f0)
            ·rw [if_pos c104] at H
             have c104b0 : decide (0 ≤ ((rd_T31 t643 x126_3).f0)) = true := decide_eq_true c104
             clear c104
             by_cases c105 : ((rd_T31 t643 x126_3).f0) < (t667.length : Int)
             ·rw [if_pos c105] at H
              have c105b0 : decide (((rd_T31 t643 x126_3).f0) < (t667.length : Int)) = true := decide_eq_true c105
              clear c105
              by_cases c106 : 0 ≤ 1
              ·rw [if_pos c106] at H
               have c106b0 := eq_true c106
               have c106b1 : decide (0 ≤ 1) = true := decide_eq_true c106
               clear c106
               by_cases c107 : 1 ≤ ((rdOf ByteArray.empty t667 ((rd_T31 t643 x126_3).f0)).size : Int)
               ·rw [if_pos c107] at H
                have c107b0 := eq_true c107
                have c107b1 : decide (1 ≤ ((rdOf ByteArray.empty t667 ((rd_T31 t643 x126_3).f0)).size : Int)) = true := decide_eq_true c107
                clear c107
                by_cases c108 : ((rdOf ByteArray.empty t667 ((rd_T31 t643 x126_3).f0)).extract 0 1).toList = ([43] : List UInt8)
                ·rw [if_pos c108] at H
                 have c108b0 : (((rdOf ByteArray.empty t667 ((rd_T31 t643 x126_3).f0)).extract 0 1).toList == ([43] : List UInt8)) = true := beq_iff_eq.mpr c108
                 have c108b1 : (((rdOf ByteArray.empty t667 ((rd_T31 t643 x126_3).f0)).extract 0 1).toList != ([43] : List UInt8)) = false := bne_eq_false_iff_eq.mpr c108
                 clear c108
                 by_cases c109 : ((rd_T31 t643 x126_3).f1) < ((rd_T31 t643 x126_3).f0)
                 ·rw [if_pos c109] at H
                  have c109b0 : decide (((rd_T31 t643 x126_3).f1) < ((rd_T31 t643 x126_3).f0)) = true := decide_eq_true c109
                  clear c109
                  have H' := Az.mk H
                  clear H
                  have hcz110_0 : w98.cell? ⟨gb671, 0, none⟩ = some (.int .i64 0) := (blk_cell BK671.out 0).trans rfl
                  have hcz110_1 : w98.cell? ⟨gb671, 1, none⟩ = some (.int .i64 0) := (blk_cell BK671.out 1).trans rfl
                  have hcz110_2 : w98.cell? ⟨gb671, 2, none⟩ = some (.int .i64 0) := (blk_cell BK671.out 2).trans rfl
                  have hfz110_0 := blk_frozen BK671.out 0
                  have hfz110_1 := blk_frozen BK671.out 1
                  have hfz110_2 := blk_frozen BK671.out 2
                  obtain ⟨Ao111, co111, eo111⟩ := Kd.R_slice HO_8.out
                  subst eo111
                  have p672 : 0 ≤ (x126_3 : Int) := of_decide_eq_true (by first|(with_reducible assumption)|assumption)
                  have q672 : x126_3 < (t647.length : Int) := of_decide_eq_true (by first|(with_reducible assumption)|assumption)
                  obtain ⟨ad672, e672, hx672_0, hx672_1, hx672_2⟩ := at_T31 (Kd.R_reads' HO_8.out).2.2 x126_3 p672 q672
                  cases e672
                  have hn672_0 : ad672.block ≠ gb671 := Kd.own_blk (by first | exact Kd.R_ne HO_8.out BK671.out (by decide) | exact fun e_ => (HO_8.out.1 _ e_.symm).2 rfl)
                  have hn672_1 : ad672.block ≠ gb671 := Kd.own_blk (by first | exact Kd.R_ne HO_8.out BK671.out (by decide) | exact fun e_ => (HO_8.out.1 _ e_.symm).2 rfl)
                  have hn672_2 : ad672.block ≠ gb671 := Kd.own_blk (by first | exact Kd.R_ne HO_8.out BK671.out (by decide) | exact fun e_ => (HO_8.out.1 _ e_.symm).2 rfl)
                  replace hx672_0 := (cell_far (p := ⟨gb671, 0, none⟩) (by first | (rw [add_block]; exact hn672_0) | (show (Addr.add _ _).block ≠ _; rw [add_block]; exact hn672_0) | exact hn672_0) (.int .i64 ((rd_T31 t643 x126_3).f0))).trans hx672_0
                  replace hx672_1 := (cell_far (p := ⟨gb671, 0, none⟩) (by first | (rw [add_block]; exact hn672_0) | (show (Addr.add _ _).block ≠ _; rw [add_block]; exact hn672_0) | exact hn672_0) (.int .i64 ((rd_T31 t643 x126_3).f0))).trans hx672_1
                  replace hx672_2 := (cell_far (p := ⟨gb671, 0, none⟩) (by first | (rw [add_block]; exact hn672_0) | (show (Addr.add _ _).block ≠ _; rw [add_block]; exact hn672_0) | exact hn672_0) (.int .i64 ((rd_T31 t643 x126_3).f0))).trans hx672_2
                  replace hx672_0 := (cell_far (p := ⟨gb671, 1, none⟩) (by first | (rw [add_block]; exact hn672_1) | (show (Addr.add _ _).block ≠ _; rw [add_block]; exact hn672_1) | exact hn672_1) (.int .i64 ((rd_T31 t643 x126_3).f1))).trans hx672_0
                  replace hx672_1 := (cell_far (p := ⟨gb671, 1, none⟩) (by first | (rw [add_block]; exact hn672_1) | (show (Addr.add _ _).block ≠ _; rw [add_block]; exact hn672_1) | exact hn672_1) (.int .i64 ((rd_T31 t643 x126_3).f1))).trans hx672_1
                  replace hx672_2 := (cell_far (p := ⟨gb671, 1, none⟩) (by first | (rw [add_block]; exact hn672_1) | (show (Addr.add _ _).block ≠ _; rw [add_block]; exact hn672_1) | exact hn672_1) (.int .i64 ((rd_T31 t643 x126_3).f1))).trans hx672_2
                  replace hx672_0 := (cell_far (p := ⟨gb671, 2, none⟩) (by first | (rw [add_block]; exact hn672_2) | (show (Addr.add _ _).block ≠ _; rw [add_block]; exact hn672_2) | exact hn672_2) (.int .i64 ((rd_T31 t643 x126_3).f2))).trans hx672_0
                  replace hx672_1 := (cell_far (p := ⟨gb671, 2, none⟩) (by first | (rw [add_block]; exact hn672_2) | (show (Addr.add _ _).block ≠ _; rw [add_block]; exact hn672_2) | exact hn672_2) (.int .i64 ((rd_T31 t643 x126_3).f2))).trans hx672_1
                  replace hx672_2 := (cell_far (p := ⟨gb671, 2, none⟩) (by first | (rw [add_block]; exact hn672_2) | (show (Addr.add _ _).block ≠ _; rw [add_block]; exact hn672_2) | exact hn672_2) (.int .i64 ((rd_T31 t643 x126_3).f2))).trans hx672_2
                  (try have hy672_0 := fun (n_ : Nat) => (show (((((w98.drewN n_).setCell ⟨gb671, 0, none⟩ (.int .i64 ((rd_T31 t643 x126_3).f0))).setCell ⟨gb671, 1, none⟩ (.int .i64 ((rd_T31 t643 x126_3).f1))).setCell ⟨gb671, 2, none⟩ (.int .i64 ((rd_T31 t643 x126_3).f2)))).cell? _ = some _ from hx672_0))
                  (try have hy672_1 := fun (n_ : Nat) => (show (((((w98.drewN n_).setCell ⟨gb671, 0, none⟩ (.int .i64 ((rd_T31 t643 x126_3).f0))).setCell ⟨gb671, 1, none⟩ (.int .i64 ((rd_T31 t643 x126_3).f1))).setCell ⟨gb671, 2, none⟩ (.int .i64 ((rd_T31 t643 x126_3).f2)))).cell? _ = some _ from hx672_1))
                  (try have hy672_2 := fun (n_ : Nat) => (show (((((w98.drewN n_).setCell ⟨gb671, 0, none⟩ (.int .i64 ((rd_T31 t643 x126_3).f0))).setCell ⟨gb671, 1, none⟩ (.int .i64 ((rd_T31 t643 x126_3).f1))).setCell ⟨gb671, 2, none⟩ (.int .i64 ((rd_T31 t643 x126_3).f2)))).cell? _ = some _ from hx672_2))
                  clear hn672_0
                  clear hn672_1
                  clear hn672_2
                  replace p672 := eq_true p672
                  replace q672 := eq_true q672
                  obtain ⟨Ao112, co112, eo112⟩ := Kd.R_slice HO_16.out
                  subst eo112
                  have p673 : 0 ≤ (((rd_T31 t643 x126_3).f0) : Int) := of_decide_eq_true (by first|(with_reducible assumption)|assumption)
                  have q673 : ((rd_T31 t643 x126_3).f0) < (t667.length : Int) := of_decide_eq_true (by first|(with_reducible assumption)|assumption)
                  obtain ⟨ad673, e673, hx673_0⟩ := Kd.at_string (Kd.R_reads' HO_16.out).2.2 ((rd_T31 t643 x126_3).f0) p673 q673
                  cases e673
                  have hn673_0 : ad673.block ≠ gb671 := Kd.own_blk (by first | exact Kd.R_ne HO_16.out BK671.out (by decide) | exact fun e_ => (HO_16.out.1 _ e_.symm).2 rfl)
                  have hn673_1 : ad673.block ≠ gb671 := Kd.own_blk (by first | exact Kd.R_ne HO_16.out BK671.out (by decide) | exact fun e_ => (HO_16.out.1 _ e_.symm).2 rfl)
                  have hn673_2 : ad673.block ≠ gb671 := Kd.own_blk (by first | exact Kd.R_ne HO_16.out BK671.out (by decide) | exact fun e_ => (HO_16.out.1 _ e_.symm).2 rfl)
                  replace hx673_0 := (cell_far (p := ⟨gb671, 0, none⟩) (by first | (rw [add_block]; exact hn673_0) | (show (Addr.add _ _).block ≠ _; rw [add_block]; exact hn673_0) | exact hn673_0) (.int .i64 ((rd_T31 t643 x126_3).f0))).trans hx673_0
                  replace hx673_0 := (cell_far (p := ⟨gb671, 1, none⟩) (by first | (rw [add_block]; exact hn673_1) | (show (Addr.add _ _).block ≠ _; rw [add_block]; exact hn673_1) | exact hn673_1) (.int .i64 ((rd_T31 t643 x126_3).f1))).trans hx673_0
                  replace hx673_0 := (cell_far (p := ⟨gb671, 2, none⟩) (by first | (rw [add_block]; exact hn673_2) | (show (Addr.add _ _).block ≠ _; rw [add_block]; exact hn673_2) | exact hn673_2) (.int .i64 ((rd_T31 t643 x126_3).f2))).trans hx673_0
                  (try have hy673_0 := fun (n_ : Nat) => (show (((((w98.drewN n_).setCell ⟨gb671, 0, none⟩ (.int .i64 ((rd_T31 t643 x126_3).f0))).setCell ⟨gb671, 1, none⟩ (.int .i64 ((rd_T31 t643 x126_3).f1))).setCell ⟨gb671, 2, none⟩ (.int .i64 ((rd_T31 t643 x126_3).f2)))).cell? _ = some _ from hx673_0))
                  clear hn673_0
                  clear hn673_1
                  clear hn673_2
                  replace p673 := eq_true p673
                  replace q673 := eq_true q673
                  have hnT := fun W : World => neq_T31 W (rd_T31 t643 x126_3).f0 (rd_T31 t643 x126_3).f1 (rd_T31 t643 x126_3).f2 (rd_T31 t647 x126_3).f0 (rd_T31 t647 x126_3).f1 (rd_T31 t647 x126_3).f2
                  have hgT := fun (W : World) (x y : Operand) => eqGuard_T31 W x y #[.int .i64 (rd_T31 t643 x126_3).f0, .int .i64 (rd_T31 t643 x126_3).f1, .int .i64 (rd_T31 t643 x126_3).f2] #[.int .i64 (rd_T31 t647 x126_3).f0, .int .i64 (rd_T31 t647 x126_3).f1, .int .i64 (rd_T31 t647 x126_3).f2]
                  go_wp2
                  repeat (go_quiet (fail); try go_wp2)
                  go_meet
                  case rel => exact ⟨_, (true), (by first | rfl | (simp; done) | (simp [*]; done)), H', ⟨by have := HJ2.out; have := HJ9.out; have := HK3.out; first | omega | exact Nat.le_refl _⟩, ⟨by (with_reducible repeat first|apply Kd.Ra|apply Kd.Rn|apply Kd.Rw); exact Kd.R_mono (Kd.R_far (p := ⟨gb671, 2, none⟩) (Kd.R_far (p := ⟨gb671, 1, none⟩) (Kd.R_far (p := ⟨gb671, 0, none⟩) (Kd.R_mono HO_6.out (fun k_ hk => (⟨hk, hk.2⟩ : _ ∧ k_ ≠ gb671))) (fun _ hk => hk.2) (.int .i64 ((rd_T31 t643 x126_3).f0))) (fun _ hk => hk.2) (.int .i64 ((rd_T31 t643 x126_3).f1))) (fun _ hk => hk.2) (.int .i64 ((rd_T31 t643 x126_3).f2))) (fun _ hk => ⟨hk.1.1, hk.1.2⟩)⟩, ⟨by (with_reducible repeat first|apply Kd.Ra|apply Kd.Rn|apply Kd.Rw); exact Kd.R_mono (Kd.R_far (p := ⟨gb671, 2, none⟩) (Kd.R_far (p := ⟨gb671, 1, none⟩) (Kd.R_far (p := ⟨gb671, 0, none⟩) (Kd.R_mono HO_8.out (fun k_ hk => (⟨hk, hk.2⟩ : _ ∧ k_ ≠ gb671))) (fun _ hk => hk.2) (.int .i64 ((rd_T31 t643 x126_3).f0))) (fun _ hk => hk.2) (.int .i64 ((rd_T31 t643 x126_3).f1))) (fun _ hk => hk.2) (.int .i64 ((rd_T31 t643 x126_3).f2))) (fun _ hk => ⟨hk.1.1.1, ⟨hk.1.1.2, hk.1.2⟩⟩)⟩, ⟨by (with_reducible repeat first|apply Kd.Ra|apply Kd.Rn|apply Kd.Rw); exact Kd.R_mono (Kd.R_far (p := ⟨gb671, 2, none⟩) (Kd.R_far (p := ⟨gb671, 1, none⟩) (Kd.R_far (p := ⟨gb671, 0, none⟩) (Kd.R_types HO_10.out BK671.out (by decide)) (fun _ hk => hk.2) (.int .i64 ((rd_T31 t643 x126_3).f0))) (fun _ hk => hk.2) (.int .i64 ((rd_T31 t643 x126_3).f1))) (fun _ hk => hk.2) (.int .i64 ((rd_T31 t643 x126_3).f2))) (fun _ hk => trivial)⟩, ⟨by (with_reducible repeat first|apply Kd.Ra|apply Kd.Rn|apply Kd.Rw); exact Kd.R_mono (Kd.R_far (p := ⟨gb671, 2, none⟩) (Kd.R_far (p := ⟨gb671, 1, none⟩) (Kd.R_far (p := ⟨gb671, 0, none⟩) (Kd.R_types HO_16.out BK671.out (by decide)) (fun _ hk => hk.2) (.int .i64 ((rd_T31 t643 x126_3).f0))) (fun _ hk => hk.2) (.int .i64 ((rd_T31 t643 x126_3).f1))) (fun _ hk => hk.2) (.int .i64 ((rd_T31 t643 x126_3).f2))) (fun _ hk => trivial)⟩, ⟨by (with_reducible repeat first|apply Kd.Ra|apply Kd.Rn|apply Kd.Rw); exact Kd.R_mono (Kd.R_far (p := ⟨gb671, 2, none⟩) (Kd.R_far (p := ⟨gb671, 1, none⟩) (Kd.R_far (p := ⟨gb671, 0, none⟩) (Kd.R_mono HO_124.out (fun k_ hk => (⟨hk, hk.2⟩ : _ ∧ k_ ≠ gb671))) (fun _ hk => hk.2) (.int .i64 ((rd_T31 t643 x126_3).f0))) (fun _ hk => hk.2) (.int .i64 ((rd_T31 t643 x126_3).f1))) (fun _ hk => hk.2) (.int .i64 ((rd_T31 t643 x126_3).f2))) (fun _ hk => ⟨hk.1.1, hk.1.2⟩)⟩, ⟨by (with_reducible repeat first|refine blN ?_ _|refine bl1 ?_|refine blA ?_ _); refine blk_put (cs := #[.int .i64 ((rd_T31 t643 x126_3).f0), .int .i64 ((rd_T31 t643 x126_3).f1), .int .i64 0]) ?_ 2 _ rfl; (with_reducible repeat first|refine blN ?_ _|refine bl1 ?_|refine blA ?_ _); refine blk_put (cs := #[.int .i64 ((rd_T31 t643 x126_3).f0), .int .i64 0, .int .i64 0]) ?_ 1 _ rfl; (with_reducible repeat first|refine blN ?_ _|refine bl1 ?_|refine blA ?_ _); refine blk_put (cs := #[.int .i64 0, .int .i64 0, .int .i64 0]) ?_ 0 _ rfl; (with_reducible repeat first|refine blN ?_ _|refine bl1 ?_|refine blA ?_ _); exact BK671.out⟩, ⟨by repeat (first | (with_reducible first|exact HB.out|apply bA|apply bN|apply bD | refine below_set ?_ GE671.out) | exact HB.out)⟩⟩
                 ·rw [if_neg c109] at H
                  have c109b0 : decide (((rd_T31 t643 x126_3).f1) < ((rd_T31 t643 x126_3).f0)) = false := decide_eq_false c109
                  clear c109
                  by_cases c113 : x126_3 > 0
                  ·rw [if_pos c113] at H
                   have c113b0 : decide (0 < x126_3) = true := decide_eq_true c113
                   clear c113
                   obtain ⟨ji114, hji114⟩ : ∃ j_ : Int, (wrap64 (x126_3 - 1)) = j_ := ⟨_, rfl⟩
                   replace H : (if 0 ≤ (ji114) then (if (ji114) < (t643.length : Int) then (laws_FnLives.j3 k3 t643 t647 t651 x15_3 t667 t643 (t643.length : Int) x126_3 (decide (((rd_T31 t643 (ji114)).f0) ≥ ((rd_T31 t643 x126_3).f0))) ((rd_T31 t643 x126_3).f0) ((rd_T31 t643 x126_3).f1) ((rd_T31 t643 x126_3).f2)) else (none)) else (none)) = some r := by first | (rw [hji114] at H; exact H) | (simp only [hji114] at H ⊢; exact H)
                   have hji114w : (IntKind.i64.wrap (x126_3 - 1)) = ji114 := (i64_w _).trans hji114
                   by_cases c115 : 0 ≤ (ji114)
                   ·rw [if_pos c115] at H
                    have c115b0 : decide (0 ≤ (ji114)) = true := decide_eq_true c115
                    clear c115
                    by_cases c116 : (ji114) < (t643.length : Int)
                    ·rw [if_pos c116] at H
                     have c116b0 : decide ((ji114) < (t643.length : Int)) = true := decide_eq_true c116
                     clear c116
                     have H' := Az.mk H
                     clear H
                     have hcz117_0 : w98.cell? ⟨gb671, 0, none⟩ = some (.int .i64 0) := (blk_cell BK671.out 0).trans rfl
                     have hcz117_1 : w98.cell? ⟨gb671, 1, none⟩ = some (.int .i64 0) := (blk_cell BK671.out 1).trans rfl
                     have hcz117_2 : w98.cell? ⟨gb671, 2, none⟩ = some (.int .i64 0) := (blk_cell BK671.out 2).trans rfl
                     have hfz117_0 := blk_frozen BK671.out 0
                     have hfz117_1 := blk_frozen BK671.out 1
                     have hfz117_2 := blk_frozen BK671.out 2
                     obtain ⟨Ao118, co118, eo118⟩ := Kd.R_slice HO_8.out
                     subst eo118
                     have p672 : 0 ≤ (x126_3 : Int) := of_decide_eq_true (by first|(with_reducible assumption)|assumption)
                     have q672 : x126_3 < (t647.length : Int) := of_decide_eq_true (by first|(with_reducible assumption)|assumption)
                     obtain ⟨ad672, e672, hx672_0, hx672_1, hx672_2⟩ := at_T31 (Kd.R_reads' HO_8.out).2.2 x126_3 p672 q672
                     cases e672
                     have hn672_0 : ad672.block ≠ gb671 := Kd.own_blk (by first | exact Kd.R_ne HO_8.out BK671.out (by decide) | exact fun e_ => (HO_8.out.1 _ e_.symm).2 rfl)
                     have hn672_1 : ad672.block ≠ gb671 := Kd.own_blk (by first | exact Kd.R_ne HO_8.out BK671.out (by decide) | exact fun e_ => (HO_8.out.1 _ e_.symm).2 rfl)
                     have hn672_2 : ad672.block ≠ gb671 := Kd.own_blk (by first | exact Kd.R_ne HO_8.out BK671.out (by decide) | exact fun e_ => (HO_8.out.1 _ e_.symm).2 rfl)
                     replace hx672_0 := (cell_far (p := ⟨gb671, 0, none⟩) (by first | (rw [add_block]; exact hn672_0) | (show (Addr.add _ _).block ≠ _; rw [add_block]; exact hn672_0) | exact hn672_0) (.int .i64 ((rd_T31 t643 x126_3).f0))).trans hx672_0
                     replace hx672_1 := (cell_far (p := ⟨gb671, 0, none⟩) (by first | (rw [add_block]; exact hn672_0) | (show (Addr.add _ _).block ≠ _; rw [add_block]; exact hn672_0) | exact hn672_0) (.int .i64 ((rd_T31 t643 x126_3).f0))).trans hx672_1
                     replace hx672_2 := (cell_far (p := ⟨gb671, 0, none⟩) (by first | (rw [add_block]; exact hn672_0) | (show (Addr.add _ _).block ≠ _; rw [add_block]; exact hn672_0) | exact hn672_0) (.int .i64 ((rd_T31 t643 x126_3).f0))).trans hx672_2
                     replace hx672_0 := (cell_far (p := ⟨gb671, 1, none⟩) (by first | (rw [add_block]; exact hn672_1) | (show (Addr.add _ _).block ≠ _; rw [add_block]; exact hn672_1) | exact hn672_1) (.int .i64 ((rd_T31 t643 x126_3).f1))).trans hx672_0
                     replace hx672_1 := (cell_far (p := ⟨gb671, 1, none⟩) (by first | (rw [add_block]; exact hn672_1) | (show (Addr.add _ _).block ≠ _; rw [add_block]; exact hn672_1) | exact hn672_1) (.int .i64 ((rd_T31 t643 x126_3).f1))).trans hx672_1
                     replace hx672_2 := (cell_far (p := ⟨gb671, 1, none⟩) (by first | (rw [add_block]; exact hn672_1) | (show (Addr.add _ _).block ≠ _; rw [add_block]; exact hn672_1) | exact hn672_1) (.int .i64 ((rd_T31 t643 x126_3).f1))).trans hx672_2
                     replace hx672_0 := (cell_far (p := ⟨gb671, 2, none⟩) (by first | (rw [add_block]; exact hn672_2) | (show (Addr.add _ _).block ≠ _; rw [add_block]; exact hn672_2) | exact hn672_2) (.int .i64 ((rd_T31 t643 x126_3).f2))).trans hx672_0
                     replace hx672_1 := (cell_far (p := ⟨gb671, 2, none⟩) (by first | (rw [add_block]; exact hn672_2) | (show (Addr.add _ _).block ≠ _; rw [add_block]; exact hn672_2) | exact hn672_2) (.int .i64 ((rd_T31 t643 x126_3).f2))).trans hx672_1
                     replace hx672_2 := (cell_far (p := ⟨gb671, 2, none⟩) (by first | (rw [add_block]; exact hn672_2) | (show (Addr.add _ _).block ≠ _; rw [add_block]; exact hn672_2) | exact hn672_2) (.int .i64 ((rd_T31 t643 x126_3).f2))).trans hx672_2
                     (try have hy672_0 := fun (n_ : Nat) => (show (((((w98.drewN n_).setCell ⟨gb671, 0, none⟩ (.int .i64 ((rd_T31 t643 x126_3).f0))).setCell ⟨gb671, 1, none⟩ (.int .i64 ((rd_T31 t643 x126_3).f1))).setCell ⟨gb671, 2, none⟩ (.int .i64 ((rd_T31 t643 x126_3).f2)))).cell? _ = some _ from hx672_0))
                     (try have hy672_1 := fun (n_ : Nat) => (show (((((w98.drewN n_).setCell ⟨gb671, 0, none⟩ (.int .i64 ((rd_T31 t643 x126_3).f0))).setCell ⟨gb671, 1, none⟩ (.int .i64 ((rd_T31 t643 x126_3).f1))).setCell ⟨gb671, 2, none⟩ (.int .i64 ((rd_T31 t643 x126_3).f2)))).cell? _ = some _ from hx672_1))
                     (try have hy672_2 := fun (n_ : Nat) => (show (((((w98.drewN n_).setCell ⟨gb671, 0, none⟩ (.int .i64 ((rd_T31 t643 x126_3).f0))).setCell ⟨gb671, 1, none⟩ (.int .i64 ((rd_T31 t643 x126_3).f1))).setCell ⟨gb671, 2, none⟩ (.int .i64 ((rd_T31 t643 x126_3).f2)))).cell? _ = some _ from hx672_2))
                     clear hn672_0
                     clear hn672_1
                     clear hn672_2
                     replace p672 := eq_true p672
                     replace q672 := eq_true q672
                     obtain ⟨Ao119, co119, eo119⟩ := Kd.R_slice HO_16.out
                     subst eo119
                     have p673 : 0 ≤ (((rd_T31 t643 x126_3).f0) : Int) := of_decide_eq_true (by first|(with_reducible assumption)|assumption)
                     have q673 : ((rd_T31 t643 x126_3).f0) < (t667.length : Int) := of_decide_eq_true (by first|(with_reducible assumption)|assumption)
                     obtain ⟨ad673, e673, hx673_0⟩ := Kd.at_string (Kd.R_reads' HO_16.out).2.2 ((rd_T31 t643 x126_3).f0) p673 q673
                     cases e673
                     have hn673_0 : ad673.block ≠ gb671 := Kd.own_blk (by first | exact Kd.R_ne HO_16.out BK671.out (by decide) | exact fun e_ => (HO_16.out.1 _ e_.symm).2 rfl)
                     have hn673_1 : ad673.block ≠ gb671 := Kd.own_blk (by first | exact Kd.R_ne HO_16.out BK671.out (by decide) | exact fun e_ => (HO_16.out.1 _ e_.symm).2 rfl)
                     have hn673_2 : ad673.block ≠ gb671 := Kd.own_blk (by first | exact Kd.R_ne HO_16.out BK671.out (by decide) | exact fun e_ => (HO_16.out.1 _ e_.symm).2 rfl)
                     replace hx673_0 := (cell_far (p := ⟨gb671, 0, none⟩) (by first | (rw [add_block]; exact hn673_0) | (show (Addr.add _ _).block ≠ _; rw [add_block]; exact hn673_0) | exact hn673_0) (.int .i64 ((rd_T31 t643 x126_3).f0))).trans hx673_0
                     replace hx673_0 := (cell_far (p := ⟨gb671, 1, none⟩) (by first | (rw [add_block]; exact hn673_1) | (show (Addr.add _ _).block ≠ _; rw [add_block]; exact hn673_1) | exact hn673_1) (.int .i64 ((rd_T31 t643 x126_3).f1))).trans hx673_0
                     replace hx673_0 := (cell_far (p := ⟨gb671, 2, none⟩) (by first | (rw [add_block]; exact hn673_2) | (show (Addr.add _ _).block ≠ _; rw [add_block]; exact hn673_2) | exact hn673_2) (.int .i64 ((rd_T31 t643 x126_3).f2))).trans hx673_0
                     (try have hy673_0 := fun (n_ : Nat) => (show (((((w98.drewN n_).setCell ⟨gb671, 0, none⟩ (.int .i64 ((rd_T31 t643 x126_3).f0))).setCell ⟨gb671, 1, none⟩ (.int .i64 ((rd_T31 t643 x126_3).f1))).setCell ⟨gb671, 2, none⟩ (.int .i64 ((rd_T31 t643 x126_3).f2)))).cell? _ = some _ from hx673_0))
                     clear hn673_0
                     clear hn673_1
                     clear hn673_2
                     replace p673 := eq_true p673
                     replace q673 := eq_true q673
                     have p674 : 0 ≤ ((ji114) : Int) := of_decide_eq_true (by first|(with_reducible assumption)|assumption)
                     have q674 : (ji114) < (t643.length : Int) := of_decide_eq_true (by first|(with_reducible assumption)|assumption)
                     obtain ⟨ad674, e674, hx674_0, hx674_1, hx674_2⟩ := at_T31 (Kd.R_reads' HO_6.out).2.2 (ji114) p674 q674
                     obtain rfl : ad670 = ad674 := (by injection e674)
                     have hn674_0 : ad670.block ≠ gb671 := Kd.own_blk (by first | exact Kd.R_ne HO_6.out BK671.out (by decide) | exact fun e_ => (HO_6.out.1 _ e_.symm).2 rfl)
                     have hn674_1 : ad670.block ≠ gb671 := Kd.own_blk (by first | exact Kd.R_ne HO_6.out BK671.out (by decide) | exact fun e_ => (HO_6.out.1 _ e_.symm).2 rfl)
                     have hn674_2 : ad670.block ≠ gb671 := Kd.own_blk (by first | exact Kd.R_ne HO_6.out BK671.out (by decide) | exact fun e_ => (HO_6.out.1 _ e_.symm).2 rfl)
                     replace hx674_0 := (cell_far (p := ⟨gb671, 0, none⟩) (by first | (rw [add_block]; exact hn674_0) | (show (Addr.add _ _).block ≠ _; rw [add_block]; exact hn674_0) | exact hn674_0) (.int .i64 ((rd_T31 t643 x126_3).f0))).trans hx674_0
                     replace hx674_1 := (cell_far (p := ⟨gb671, 0, none⟩) (by first | (rw [add_block]; exact hn674_0) | (show (Addr.add _ _).block ≠ _; rw [add_block]; exact hn674_0) | exact hn674_0) (.int .i64 ((rd_T31 t643 x126_3).f0))).trans hx674_1
                     replace hx674_2 := (cell_far (p := ⟨gb671, 0, none⟩) (by first | (rw [add_block]; exact hn674_0) | (show (Addr.add _ _).block ≠ _; rw [add_block]; exact hn674_0) | exact hn674_0) (.int .i64 ((rd_T31 t643 x126_3).f0))).trans hx674_2
                     replace hx674_0 := (cell_far (p := ⟨gb671, 1, none⟩) (by first | (rw [add_block]; exact hn674_1) | (show (Addr.add _ _).block ≠ _; rw [add_block]; exact hn674_1) | exact hn674_1) (.int .i64 ((rd_T31 t643 x126_3).f1))).trans hx674_0
                     replace hx674_1 := (cell_far (p := ⟨gb671, 1, none⟩) (by first | (rw [add_block]; exact hn674_1) | (show (Addr.add _ _).block ≠ _; rw [add_block]; exact hn674_1) | exact hn674_1) (.int .i64 ((rd_T31 t643 x126_3).f1))).trans hx674_1
                     replace hx674_2 := (cell_far (p := ⟨gb671, 1, none⟩) (by first | (rw [add_block]; exact hn674_1) | (show (Addr.add _ _).block ≠ _; rw [add_block]; exact hn674_1) | exact hn674_1) (.int .i64 ((rd_T31 t643 x126_3).f1))).trans hx674_2
                     replace hx674_0 := (cell_far (p := ⟨gb671, 2, none⟩) (by first | (rw [add_block]; exact hn674_2) | (show (Addr.add _ _).block ≠ _; rw [add_block]; exact hn674_2) | exact hn674_2) (.int .i64 ((rd_T31 t643 x126_3).f2))).trans hx674_0
                     replace hx674_1 := (cell_far (p := ⟨gb671, 2, none⟩) (by first | (rw [add_block]; exact hn674_2) | (show (Addr.add _ _).block ≠ _; rw [add_block]; exact hn674_2) | exact hn674_2) (.int .i64 ((rd_T31 t643 x126_3).f2))).trans hx674_1
                     replace hx674_2 := (cell_far (p := ⟨gb671, 2, none⟩) (by first | (rw [add_block]; exact hn674_2) | (show (Addr.add _ _).block ≠ _; rw [add_block]; exact hn674_2) | exact hn674_2) (.int .i64 ((rd_T31 t643 x126_3).f2))).trans hx674_2
                     (try have hy674_0 := fun (n_ : Nat) => (show (((((w98.drewN n_).setCell ⟨gb671, 0, none⟩ (.int .i64 ((rd_T31 t643 x126_3).f0))).setCell ⟨gb671, 1, none⟩ (.int .i64 ((rd_T31 t643 x126_3).f1))).setCell ⟨gb671, 2, none⟩ (.int .i64 ((rd_T31 t643 x126_3).f2)))).cell? _ = some _ from hx674_0))
                     (try have hy674_1 := fun (n_ : Nat) => (show (((((w98.drewN n_).setCell ⟨gb671, 0, none⟩ (.int .i64 ((rd_T31 t643 x126_3).f0))).setCell ⟨gb671, 1, none⟩ (.int .i64 ((rd_T31 t643 x126_3).f1))).setCell ⟨gb671, 2, none⟩ (.int .i64 ((rd_T31 t643 x126_3).f2)))).cell? _ = some _ from hx674_1))
                     (try have hy674_2 := fun (n_ : Nat) => (show (((((w98.drewN n_).setCell ⟨gb671, 0, none⟩ (.int .i64 ((rd_T31 t643 x126_3).f0))).setCell ⟨gb671, 1, none⟩ (.int .i64 ((rd_T31 t643 x126_3).f1))).setCell ⟨gb671, 2, none⟩ (.int .i64 ((rd_T31 t643 x126_3).f2)))).cell? _ = some _ from hx674_2))
                     clear hn674_0
                     clear hn674_1
                     clear hn674_2
                     replace p674 := eq_true p674
                     replace q674 := eq_true q674
                     have hnT := fun W : World => neq_T31 W (rd_T31 t643 x126_3).f0 (rd_T31 t643 x126_3).f1 (rd_T31 t643 x126_3).f2 (rd_T31 t647 x126_3).f0 (rd_T31 t647 x126_3).f1 (rd_T31 t647 x126_3).f2
                     have hgT := fun (W : World) (x y : Operand) => eqGuard_T31 W x y #[.int .i64 (rd_T31 t643 x126_3).f0, .int .i64 (rd_T31 t643 x126_3).f1, .int .i64 (rd_T31 t643 x126_3).f2] #[.int .i64 (rd_T31 t647 x126_3).f0, .int .i64 (rd_T31 t647 x126_3).f1, .int .i64 (rd_T31 t647 x126_3).f2]
                     go_wp2
                     repeat (go_quiet (fail); try go_wp2)
                     go_meet
                     case rel => exact ⟨_, (decide (((rd_T31 t643 (ji114)).f0) ≥ ((rd_T31 t643 x126_3).f0))), (by first | rfl | (simp; done) | (simp only [← hji114] <;> (first | rfl | simp)) | (simp [*]; done)), H', ⟨by have := HJ2.out; have := HJ9.out; have := HK3.out; first | omega | exact Nat.le_refl _⟩, ⟨by (with_reducible repeat first|apply Kd.Ra|apply Kd.Rn|apply Kd.Rw); exact Kd.R_mono (Kd.R_far (p := ⟨gb671, 2, none⟩) (Kd.R_far (p := ⟨gb671, 1, none⟩) (Kd.R_far (p := ⟨gb671, 0, none⟩) (Kd.R_mono HO_6.out (fun k_ hk => (⟨hk, hk.2⟩ : _ ∧ k_ ≠ gb671))) (fun _ hk => hk.2) (.int .i64 ((rd_T31 t643 x126_3).f0))) (fun _ hk => hk.2) (.int .i64 ((rd_T31 t643 x126_3).f1))) (fun _ hk => hk.2) (.int .i64 ((rd_T31 t643 x126_3).f2))) (fun _ hk => ⟨hk.1.1, hk.1.2⟩)⟩, ⟨by (with_reducible repeat first|apply Kd.Ra|apply Kd.Rn|apply Kd.Rw); exact Kd.R_mono (Kd.R_far (p := ⟨gb671, 2, none⟩) (Kd.R_far (p := ⟨gb671, 1, none⟩) (Kd.R_far (p := ⟨gb671, 0, none⟩) (Kd.R_mono HO_8.out (fun k_ hk => (⟨hk, hk.2⟩ : _ ∧ k_ ≠ gb671))) (fun _ hk => hk.2) (.int .i64 ((rd_T31 t643 x126_3).f0))) (fun _ hk => hk.2) (.int .i64 ((rd_T31 t643 x126_3).f1))) (fun _ hk => hk.2) (.int .i64 ((rd_T31 t643 x126_3).f2))) (fun _ hk => ⟨hk.1.1.1, ⟨hk.1.1.2, hk.1.2⟩⟩)⟩, ⟨by (with_reducible repeat first|apply Kd.Ra|apply Kd.Rn|apply Kd.Rw); exact Kd.R_mono (Kd.R_far (p := ⟨gb671, 2, none⟩) (Kd.R_far (p := ⟨gb671, 1, none⟩) (Kd.R_far (p := ⟨gb671, 0, none⟩) (Kd.R_types HO_10.out BK671.out (by decide)) (fun _ hk => hk.2) (.int .i64 ((rd_T31 t643 x126_3).f0))) (fun _ hk => hk.2) (.int .i64 ((rd_T31 t643 x126_3).f1))) (fun _ hk => hk.2) (.int .i64 ((rd_T31 t643 x126_3).f2))) (fun _ hk => trivial)⟩, ⟨by (with_reducible repeat first|apply Kd.Ra|apply Kd.Rn|apply Kd.Rw); exact Kd.R_mono (Kd.R_far (p := ⟨gb671, 2, none⟩) (Kd.R_far (p := ⟨gb671, 1, none⟩) (Kd.R_far (p := ⟨gb671, 0, none⟩) (Kd.R_types HO_16.out BK671.out (by decide)) (fun _ hk => hk.2) (.int .i64 ((rd_T31 t643 x126_3).f0))) (fun _ hk => hk.2) (.int .i64 ((rd_T31 t643 x126_3).f1))) (fun _ hk => hk.2) (.int .i64 ((rd_T31 t643 x126_3).f2))) (fun _ hk => trivial)⟩, ⟨by (with_reducible repeat first|apply Kd.Ra|apply Kd.Rn|apply Kd.Rw); exact Kd.R_mono (Kd.R_far (p := ⟨gb671, 2, none⟩) (Kd.R_far (p := ⟨gb671, 1, none⟩) (Kd.R_far (p := ⟨gb671, 0, none⟩) (Kd.R_mono HO_124.out (fun k_ hk => (⟨hk, hk.2⟩ : _ ∧ k_ ≠ gb671))) (fun _ hk => hk.2) (.int .i64 ((rd_T31 t643 x126_3).f0))) (fun _ hk => hk.2) (.int .i64 ((rd_T31 t643 x126_3).f1))) (fun _ hk => hk.2) (.int .i64 ((rd_T31 t643 x126_3).f2))) (fun _ hk => ⟨hk.1.1, hk.1.2⟩)⟩, ⟨by (with_reducible repeat first|refine blN ?_ _|refine bl1 ?_|refine blA ?_ _); refine blk_put (cs := #[.int .i64 ((rd_T31 t643 x126_3).f0), .int .i64 ((rd_T31 t643 x126_3).f1), .int .i64 0]) ?_ 2 _ rfl; (with_reducible repeat first|refine blN ?_ _|refine bl1 ?_|refine blA ?_ _); refine blk_put (cs := #[.int .i64 ((rd_T31 t643 x126_3).f0), .int .i64 0, .int .i64 0]) ?_ 1 _ rfl; (with_reducible repeat first|refine blN ?_ _|refine bl1 ?_|refine blA ?_ _); refine blk_put (cs := #[.int .i64 0, .int .i64 0, .int .i64 0]) ?_ 0 _ rfl; (with_reducible repeat first|refine blN ?_ _|refine bl1 ?_|refine blA ?_ _); exact BK671.out⟩, ⟨by repeat (first | (with_reducible first|exact HB.out|apply bA|apply bN|apply bD | refine below_set ?_ GE671.out) | exact HB.out)⟩⟩
                    ·rw [if_neg c116] at H
                     exact absurd H (by simp)
                   ·rw [if_neg c115] at H
                    exact absurd H (by simp)
                  ·rw [if_neg c113] at H
                   have c113b0 : decide (0 < x126_3) = false := decide_eq_false c113
                   clear c113
                   have H' := Az.mk H
                   clear H
                   have hcz120_0 : w98.cell? ⟨gb671, 0, none⟩ = some (.int .i64 0) := (blk_cell BK671.out 0).trans rfl
                   have hcz120_1 : w98.cell? ⟨gb671, 1, none⟩ = some (.int .i64 0) := (blk_cell BK671.out 1).trans rfl
                   have hcz120_2 : w98.cell? ⟨gb671, 2, none⟩ = some (.int .i64 0) := (blk_cell BK671.out 2).trans rfl
                   have hfz120_0 := blk_frozen BK671.out 0
                   have hfz120_1 := blk_frozen BK671.out 1
                   have hfz120_2 := blk_frozen BK671.out 2
                   obtain ⟨Ao121, co121, eo121⟩ := Kd.R_slice HO_8.out
                   subst eo121
                   have p672 : 0 ≤ (x126_3 : Int) := of_decide_eq_true (by first|(with_reducible assumption)|assumption)
                   have q672 : x126_3 < (t647.length : Int) := of_decide_eq_true (by first|(with_reducible assumption)|assumption)
                   obtain ⟨ad672, e672, hx672_0, hx672_1, hx672_2⟩ := at_T31 (Kd.R_reads' HO_8.out).2.2 x126_3 p672 q672
                   cases e672
                   have hn672_0 : ad672.block ≠ gb671 := Kd.own_blk (by first | exact Kd.R_ne HO_8.out BK671.out (by decide) | exact fun e_ => (HO_8.out.1 _ e_.symm).2 rfl)
                   have hn672_1 : ad672.block ≠ gb671 := Kd.own_blk (by first | exact Kd.R_ne HO_8.out BK671.out (by decide) | exact fun e_ => (HO_8.out.1 _ e_.symm).2 rfl)
                   have hn672_2 : ad672.block ≠ gb671 := Kd.own_blk (by first | exact Kd.R_ne HO_8.out BK671.out (by decide) | exact fun e_ => (HO_8.out.1 _ e_.symm).2 rfl)
                   replace hx672_0 := (cell_far (p := ⟨gb671, 0, none⟩) (by first | (rw [add_block]; exact hn672_0) | (show (Addr.add _ _).block ≠ _; rw [add_block]; exact hn672_0) | exact hn672_0) (.int .i64 ((rd_T31 t643 x126_3).f0))).trans hx672_0
                   replace hx672_1 := (cell_far (p := ⟨gb671, 0, none⟩) (by first | (rw [add_block]; exact hn672_0) | (show (Addr.add _ _).block ≠ _; rw [add_block]; exact hn672_0) | exact hn672_0) (.int .i64 ((rd_T31 t643 x126_3).f0))).trans hx672_1
                   replace hx672_2 := (cell_far (p := ⟨gb671, 0, none⟩) (by first | (rw [add_block]; exact hn672_0) | (show (Addr.add _ _).block ≠ _; rw [add_block]; exact hn672_0) | exact hn672_0) (.int .i64 ((rd_T31 t643 x126_3).f0))).trans hx672_2
                   replace hx672_0 := (cell_far (p := ⟨gb671, 1, none⟩) (by first | (rw [add_block]; exact hn672_1) | (show (Addr.add _ _).block ≠ _; rw [add_block]; exact hn672_1) | exact hn672_1) (.int .i64 ((rd_T31 t643 x126_3).f1))).trans hx672_0
                   replace hx672_1 := (cell_far (p := ⟨gb671, 1, none⟩) (by first | (rw [add_block]; exact hn672_1) | (show (Addr.add _ _).block ≠ _; rw [add_block]; exact hn672_1) | exact hn672_1) (.int .i64 ((rd_T31 t643 x126_3).f1))).trans hx672_1
                   replace hx672_2 := (cell_far (p := ⟨gb671, 1, none⟩) (by first | (rw [add_block]; exact hn672_1) | (show (Addr.add _ _).block ≠ _; rw [add_block]; exact hn672_1) | exact hn672_1) (.int .i64 ((rd_T31 t643 x126_3).f1))).trans hx672_2
                   replace hx672_0 := (cell_far (p := ⟨gb671, 2, none⟩) (by first | (rw [add_block]; exact hn672_2) | (show (Addr.add _ _).block ≠ _; rw [add_block]; exact hn672_2) | exact hn672_2) (.int .i64 ((rd_T31 t643 x126_3).f2))).trans hx672_0
                   replace hx672_1 := (cell_far (p := ⟨gb671, 2, none⟩) (by first | (rw [add_block]; exact hn672_2) | (show (Addr.add _ _).block ≠ _; rw [add_block]; exact hn672_2) | exact hn672_2) (.int .i64 ((rd_T31 t643 x126_3).f2))).trans hx672_1
                   replace hx672_2 := (cell_far (p := ⟨gb671, 2, none⟩) (by first | (rw [add_block]; exact hn672_2) | (show (Addr.add _ _).block ≠ _; rw [add_block]; exact hn672_2) | exact hn672_2) (.int .i64 ((rd_T31 t643 x126_3).f2))).trans hx672_2
                   (try have hy672_0 := fun (n_ : Nat) => (show (((((w98.drewN n_).setCell ⟨gb671, 0, none⟩ (.int .i64 ((rd_T31 t643 x126_3).f0))).setCell ⟨gb671, 1, none⟩ (.int .i64 ((rd_T31 t643 x126_3).f1))).setCell ⟨gb671, 2, none⟩ (.int .i64 ((rd_T31 t643 x126_3).f2)))).cell? _ = some _ from hx672_0))
                   (try have hy672_1 := fun (n_ : Nat) => (show (((((w98.drewN n_).setCell ⟨gb671, 0, none⟩ (.int .i64 ((rd_T31 t643 x126_3).f0))).setCell ⟨gb671, 1, none⟩ (.int .i64 ((rd_T31 t643 x126_3).f1))).setCell ⟨gb671, 2, none⟩ (.int .i64 ((rd_T31 t643 x126_3).f2)))).cell? _ = some _ from hx672_1))
                   (try have hy672_2 := fun (n_ : Nat) => (show (((((w98.drewN n_).setCell ⟨gb671, 0, none⟩ (.int .i64 ((rd_T31 t643 x126_3).f0))).setCell ⟨gb671, 1, none⟩ (.int .i64 ((rd_T31 t643 x126_3).f1))).setCell ⟨gb671, 2, none⟩ (.int .i64 ((rd_T31 t643 x126_3).f2)))).cell? _ = some _ from hx672_2))
                   clear hn672_0
                   clear hn672_1
                   clear hn672_2
                   replace p672 := eq_true p672
                   replace q672 := eq_true q672
                   obtain ⟨Ao122, co122, eo122⟩ := Kd.R_slice HO_16.out
                   subst eo122
                   have p673 : 0 ≤ (((rd_T31 t643 x126_3).f0) : Int) := of_decide_eq_true (by first|(with_reducible assumption)|assumption)
                   have q673 : ((rd_T31 t643 x126_3).f0) < (t667.length : Int) := of_decide_eq_true (by first|(with_reducible assumption)|assumption)
                   obtain ⟨ad673, e673, hx673_0⟩ := Kd.at_string (Kd.R_reads' HO_16.out).2.2 ((rd_T31 t643 x126_3).f0) p673 q673
                   cases e673
                   have hn673_0 : ad673.block ≠ gb671 := Kd.own_blk (by first | exact Kd.R_ne HO_16.out BK671.out (by decide) | exact fun e_ => (HO_16.out.1 _ e_.symm).2 rfl)
                   have hn673_1 : ad673.block ≠ gb671 := Kd.own_blk (by first | exact Kd.R_ne HO_16.out BK671.out (by decide) | exact fun e_ => (HO_16.out.1 _ e_.symm).2 rfl)
                   have hn673_2 : ad673.block ≠ gb671 := Kd.own_blk (by first | exact Kd.R_ne HO_16.out BK671.out (by decide) | exact fun e_ => (HO_16.out.1 _ e_.symm).2 rfl)
                   replace hx673_0 := (cell_far (p := ⟨gb671, 0, none⟩) (by first | (rw [add_block]; exact hn673_0) | (show (Addr.add _ _).block ≠ _; rw [add_block]; exact hn673_0) | exact hn673_0) (.int .i64 ((rd_T31 t643 x126_3).f0))).trans hx673_0
                   replace hx673_0 := (cell_far (p := ⟨gb671, 1, none⟩) (by first | (rw [add_block]; exact hn673_1) | (show (Addr.add _ _).block ≠ _; rw [add_block]; exact hn673_1) | exact hn673_1) (.int .i64 ((rd_T31 t643 x126_3).f1))).trans hx673_0
                   replace hx673_0 := (cell_far (p := ⟨gb671, 2, none⟩) (by first | (rw [add_block]; exact hn673_2) | (show (Addr.add _ _).block ≠ _; rw [add_block]; exact hn673_2) | exact hn673_2) (.int .i64 ((rd_T31 t643 x126_3).f2))).trans hx673_0
                   (try have hy673_0 := fun (n_ : Nat) => (show (((((w98.drewN n_).setCell ⟨gb671, 0, none⟩ (.int .i64 ((rd_T31 t643 x126_3).f0))).setCell ⟨gb671, 1, none⟩ (.int .i64 ((rd_T31 t643 x126_3).f1))).setCell ⟨gb671, 2, none⟩ (.int .i64 ((rd_T31 t643 x126_3).f2)))).cell? _ = some _ from hx673_0))
                   clear hn673_0
                   clear hn673_1
                   clear hn673_2
                   replace p673 := eq_true p673
                   replace q673 := eq_true q673
                   have hnT := fun W : World => neq_T31 W (rd_T31 t643 x126_3).f0 (rd_T31 t643 x126_3).f1 (rd_T31 t643 x126_3).f2 (rd_T31 t647 x126_3).f0 (rd_T31 t647 x126_3).f1 (rd_T31 t647 x126_3).f2
                   have hgT := fun (W : World) (x y : Operand) => eqGuard_T31 W x y #[.int .i64 (rd_T31 t643 x126_3).f0, .int .i64 (rd_T31 t643 x126_3).f1, .int .i64 (rd_T31 t643 x126_3).f2] #[.int .i64 (rd_T31 t647 x126_3).f0, .int .i64 (rd_T31 t647 x126_3).f1, .int .i64 (rd_T31 t647 x126_3).f2]
                   go_wp2
                   repeat (go_quiet (fail); try go_wp2)
                   go_meet
                   case rel => exact ⟨_, (false), (by first | rfl | (simp; done) | (simp [*]; done)), H', ⟨by have := HJ2.out; have := HJ9.out; have := HK3.out; first | omega | exact Nat.le_refl _⟩, ⟨by (with_reducible repeat first|apply Kd.Ra|apply Kd.Rn|apply Kd.Rw); exact Kd.R_mono (Kd.R_far (p := ⟨gb671, 2, none⟩) (Kd.R_far (p := ⟨gb671, 1, none⟩) (Kd.R_far (p := ⟨gb671, 0, none⟩) (Kd.R_mono HO_6.out (fun k_ hk => (⟨hk, hk.2⟩ : _ ∧ k_ ≠ gb671))) (fun _ hk => hk.2) (.int .i64 ((rd_T31 t643 x126_3).f0))) (fun _ hk => hk.2) (.int .i64 ((rd_T31 t643 x126_3).f1))) (fun _ hk => hk.2) (.int .i64 ((rd_T31 t643 x126_3).f2))) (fun _ hk => ⟨hk.1.1, hk.1.2⟩)⟩, ⟨by (with_reducible repeat first|apply Kd.Ra|apply Kd.Rn|apply Kd.Rw); exact Kd.R_mono (Kd.R_far (p := ⟨gb671, 2, none⟩) (Kd.R_far (p := ⟨gb671, 1, none⟩) (Kd.R_far (p := ⟨gb671, 0, none⟩) (Kd.R_mono HO_8.out (fun k_ hk => (⟨hk, hk.2⟩ : _ ∧ k_ ≠ gb671))) (fun _ hk => hk.2) (.int .i64 ((rd_T31 t643 x126_3).f0))) (fun _ hk => hk.2) (.int .i64 ((rd_T31 t643 x126_3).f1))) (fun _ hk => hk.2) (.int .i64 ((rd_T31 t643 x126_3).f2))) (fun _ hk => ⟨hk.1.1.1, ⟨hk.1.1.2, hk.1.2⟩⟩)⟩, ⟨by (with_reducible repeat first|apply Kd.Ra|apply Kd.Rn|apply Kd.Rw); exact Kd.R_mono (Kd.R_far (p := ⟨gb671, 2, none⟩) (Kd.R_far (p := ⟨gb671, 1, none⟩) (Kd.R_far (p := ⟨gb671, 0, none⟩) (Kd.R_types HO_10.out BK671.out (by decide)) (fun _ hk => hk.2) (.int .i64 ((rd_T31 t643 x126_3).f0))) (fun _ hk => hk.2) (.int .i64 ((rd_T31 t643 x126_3).f1))) (fun _ hk => hk.2) (.int .i64 ((rd_T31 t643 x126_3).f2))) (fun _ hk => trivial)⟩, ⟨by (with_reducible repeat first|apply Kd.Ra|apply Kd.Rn|apply Kd.Rw); exact Kd.R_mono (Kd.R_far (p := ⟨gb671, 2, none⟩) (Kd.R_far (p := ⟨gb671, 1, none⟩) (Kd.R_far (p := ⟨gb671, 0, none⟩) (Kd.R_types HO_16.out BK671.out (by decide)) (fun _ hk => hk.2) (.int .i64 ((rd_T31 t643 x126_3).f0))) (fun _ hk => hk.2) (.int .i64 ((rd_T31 t643 x126_3).f1))) (fun _ hk => hk.2) (.int .i64 ((rd_T31 t643 x126_3).f2))) (fun _ hk => trivial)⟩, ⟨by (with_reducible repeat first|apply Kd.Ra|apply Kd.Rn|apply Kd.Rw); exact Kd.R_mono (Kd.R_far (p := ⟨gb671, 2, none⟩) (Kd.R_far (p := ⟨gb671, 1, none⟩) (Kd.R_far (p := ⟨gb671, 0, none⟩) (Kd.R_mono HO_124.out (fun k_ hk => (⟨hk, hk.2⟩ : _ ∧ k_ ≠ gb671))) (fun _ hk => hk.2) (.int .i64 ((rd_T31 t643 x126_3).f0))) (fun _ hk => hk.2) (.int .i64 ((rd_T31 t643 x126_3).f1))) (fun _ hk => hk.2) (.int .i64 ((rd_T31 t643 x126_3).f2))) (fun _ hk => ⟨hk.1.1, hk.1.2⟩)⟩, ⟨by (with_reducible repeat first|refine blN ?_ _|refine bl1 ?_|refine blA ?_ _); refine blk_put (cs := #[.int .i64 ((rd_T31 t643 x126_3).f0), .int .i64 ((rd_T31 t643 x126_3).f1), .int .i64 0]) ?_ 2 _ rfl; (with_reducible repeat first|refine blN ?_ _|refine bl1 ?_|refine blA ?_ _); refine blk_put (cs := #[.int .i64 ((rd_T31 t643 x126_3).f0), .int .i64 0, .int .i64 0]) ?_ 1 _ rfl; (with_reducible repeat first|refine blN ?_ _|refine bl1 ?_|refine blA ?_ _); refine blk_put (cs := #[.int .i64 0, .int .i64 0, .int .i64 0]) ?_ 0 _ rfl; (with_reducible repeat first|refine blN ?_ _|refine bl1 ?_|refine blA ?_ _); exact BK671.out⟩, ⟨by repeat (first | (with_reducible first|exact HB.out|apply bA|apply bN|apply bD | refine below_set ?_ GE671.out) | exact HB.out)⟩⟩
                ·rw [if_neg c108] at H
                 have c108b0 : (((rdOf ByteArray.empty t667 ((rd_T31 t643 x126_3).f0)).extract 0 1).toList == ([43] : List UInt8)) = false := beq_eq_false_iff_ne.mpr c108
                 have c108b1 : (((rdOf ByteArray.empty t667 ((rd_T31 t643 x126_3).f0)).extract 0 1).toList != ([43] : List UInt8)) = true := bne_iff_ne.mpr c108
                 have H' := Az.mk H
                 clear H
                 have hcz123_0 : w98.cell? ⟨gb671, 0, none⟩ = some (.int .i64 0) := (blk_cell BK671.out 0).trans rfl
                 have hcz123_1 : w98.cell? ⟨gb671, 1, none⟩ = some (.int .i64 0) := (blk_cell BK671.out 1).trans rfl
                 have hcz123_2 : w98.cell? ⟨gb671, 2, none⟩ = some (.int .i64 0) := (blk_cell BK671.out 2).trans rfl
                 have hfz123_0 := blk_frozen BK671.out 0
                 have hfz123_1 := blk_frozen BK671.out 1
                 have hfz123_2 := blk_frozen BK671.out 2
                 obtain ⟨Ao124, co124, eo124⟩ := Kd.R_slice HO_8.out
                 subst eo124
                 have p672 : 0 ≤ (x126_3 : Int) := of_decide_eq_true (by first|(with_reducible assumption)|assumption)
                 have q672 : x126_3 < (t647.length : Int) := of_decide_eq_true (by first|(with_reducible assumption)|assumption)
                 obtain ⟨ad672, e672, hx672_0, hx672_1, hx672_2⟩ := at_T31 (Kd.R_reads' HO_8.out).2.2 x126_3 p672 q672
                 cases e672
                 have hn672_0 : ad672.block ≠ gb671 := Kd.own_blk (by first | exact Kd.R_ne HO_8.out BK671.out (by decide) | exact fun e_ => (HO_8.out.1 _ e_.symm).2 rfl)
                 have hn672_1 : ad672.block ≠ gb671 := Kd.own_blk (by first | exact Kd.R_ne HO_8.out BK671.out (by decide) | exact fun e_ => (HO_8.out.1 _ e_.symm).2 rfl)
                 have hn672_2 : ad672.block ≠ gb671 := Kd.own_blk (by first | exact Kd.R_ne HO_8.out BK671.out (by decide) | exact fun e_ => (HO_8.out.1 _ e_.symm).2 rfl)
                 replace hx672_0 := (cell_far (p := ⟨gb671, 0, none⟩) (by first | (rw [add_block]; exact hn672_0) | (show (Addr.add _ _).block ≠ _; rw [add_block]; exact hn672_0) | exact hn672_0) (.int .i64 ((rd_T31 t643 x126_3).f0))).trans hx672_0
                 replace hx672_1 := (cell_far (p := ⟨gb671, 0, none⟩) (by first | (rw [add_block]; exact hn672_0) | (show (Addr.add _ _).block ≠ _; rw [add_block]; exact hn672_0) | exact hn672_0) (.int .i64 ((rd_T31 t643 x126_3).f0))).trans hx672_1
                 replace hx672_2 := (cell_far (p := ⟨gb671, 0, none⟩) (by first | (rw [add_block]; exact hn672_0) | (show (Addr.add _ _).block ≠ _; rw [add_block]; exact hn672_0) | exact hn672_0) (.int .i64 ((rd_T31 t643 x126_3).f0))).trans hx672_2
                 replace hx672_0 := (cell_far (p := ⟨gb671, 1, none⟩) (by first | (rw [add_block]; exact hn672_1) | (show (Addr.add _ _).block ≠ _; rw [add_block]; exact hn672_1) | exact hn672_1) (.int .i64 ((rd_T31 t643 x126_3).f1))).trans hx672_0
                 replace hx672_1 := (cell_far (p := ⟨gb671, 1, none⟩) (by first | (rw [add_block]; exact hn672_1) | (show (Addr.add _ _).block ≠ _; rw [add_block]; exact hn672_1) | exact hn672_1) (.int .i64 ((rd_T31 t643 x126_3).f1))).trans hx672_1
                 replace hx672_2 := (cell_far (p := ⟨gb671, 1, none⟩) (by first | (rw [add_block]; exact hn672_1) | (show (Addr.add _ _).block ≠ _; rw [add_block]; exact hn672_1) | exact hn672_1) (.int .i64 ((rd_T31 t643 x126_3).f1))).trans hx672_2
                 replace hx672_0 := (cell_far (p := ⟨gb671, 2, none⟩) (by first | (rw [add_block]; exact hn672_2) | (show (Addr.add _ _).block ≠ _; rw [add_block]; exact hn672_2) | exact hn672_2) (.int .i64 ((rd_T31 t643 x126_3).f2))).trans hx672_0
                 replace hx672_1 := (cell_far (p := ⟨gb671, 2, none⟩) (by first | (rw [add_block]; exact hn672_2) | (show (Addr.add _ _).block ≠ _; rw [add_block]; exact hn672_2) | exact hn672_2) (.int .i64 ((rd_T31 t643 x126_3).f2))).trans hx672_1
                 replace hx672_2 := (cell_far (p := ⟨gb671, 2, none⟩) (by first | (rw [add_block]; exact hn672_2) | (show (Addr.add _ _).block ≠ _; rw [add_block]; exact hn672_2) | exact hn672_2) (.int .i64 ((rd_T31 t643 x126_3).f2))).trans hx672_2
                 (try have hy672_0 := fun (n_ : Nat) => (show (((((w98.drewN n_).setCell ⟨gb671, 0, none⟩ (.int .i64 ((rd_T31 t643 x126_3).f0))).setCell ⟨gb671, 1, none⟩ (.int .i64 ((rd_T31 t643 x126_3).f1))).setCell ⟨gb671, 2, none⟩ (.int .i64 ((rd_T31 t643 x126_3).f2)))).cell? _ = some _ from hx672_0))
                 (try have hy672_1 := fun (n_ : Nat) => (show (((((w98.drewN n_).setCell ⟨gb671, 0, none⟩ (.int .i64 ((rd_T31 t643 x126_3).f0))).setCell ⟨gb671, 1, none⟩ (.int .i64 ((rd_T31 t643 x126_3).f1))).setCell ⟨gb671, 2, none⟩ (.int .i64 ((rd_T31 t643 x126_3).f2)))).cell? _ = some _ from hx672_1))
                 (try have hy672_2 := fun (n_ : Nat) => (show (((((w98.drewN n_).setCell ⟨gb671, 0, none⟩ (.int .i64 ((rd_T31 t643 x126_3).f0))).setCell ⟨gb671, 1, none⟩ (.int .i64 ((rd_T31 t643 x126_3).f1))).setCell ⟨gb671, 2, none⟩ (.int .i64 ((rd_T31 t643 x126_3).f2)))).cell? _ = some _ from hx672_2))
                 clear hn672_0
                 clear hn672_1
                 clear hn672_2
                 replace p672 := eq_true p672
                 replace q672 := eq_true q672
                 obtain ⟨Ao125, co125, eo125⟩ := Kd.R_slice HO_16.out
                 subst eo125
                 have p673 : 0 ≤ (((rd_T31 t643 x126_3).f0) : Int) := of_decide_eq_true (by first|(with_reducible assumption)|assumption)
                 have q673 : ((rd_T31 t643 x126_3).f0) < (t667.length : Int) := of_decide_eq_true (by first|(with_reducible assumption)|assumption)
                 obtain ⟨ad673, e673, hx673_0⟩ := Kd.at_string (Kd.R_reads' HO_16.out).2.2 ((rd_T31 t643 x126_3).f0) p673 q673
                 cases e673
                 have hn673_0 : ad673.block ≠ gb671 := Kd.own_blk (by first | exact Kd.R_ne HO_16.out BK671.out (by decide) | exact fun e_ => (HO_16.out.1 _ e_.symm).2 rfl)
                 have hn673_1 : ad673.block ≠ gb671 := Kd.own_blk (by first | exact Kd.R_ne HO_16.out BK671.out (by decide) | exact fun e_ => (HO_16.out.1 _ e_.symm).2 rfl)
                 have hn673_2 : ad673.block ≠ gb671 := Kd.own_blk (by first | exact Kd.R_ne HO_16.out BK671.out (by decide) | exact fun e_ => (HO_16.out.1 _ e_.symm).2 rfl)
                 replace hx673_0 := (cell_far (p := ⟨gb671, 0, none⟩) (by first | (rw [add_block]; exact hn673_0) | (show (Addr.add _ _).block ≠ _; rw [add_block]; exact hn673_0) | exact hn673_0) (.int .i64 ((rd_T31 t643 x126_3).f0))).trans hx673_0
                 replace hx673_0 := (cell_far (p := ⟨gb671, 1, none⟩) (by first | (rw [add_block]; exact hn673_1) | (show (Addr.add _ _).block ≠ _; rw [add_block]; exact hn673_1) | exact hn673_1) (.int .i64 ((rd_T31 t643 x126_3).f1))).trans hx673_0
                 replace hx673_0 := (cell_far (p := ⟨gb671, 2, none⟩) (by first | (rw [add_block]; exact hn673_2) | (show (Addr.add _ _).block ≠ _; rw [add_block]; exact hn673_2) | exact hn673_2) (.int .i64 ((rd_T31 t643 x126_3).f2))).trans hx673_0
                 (try have hy673_0 := fun (n_ : Nat) => (show (((((w98.drewN n_).setCell ⟨gb671, 0, none⟩ (.int .i64 ((rd_T31 t643 x126_3).f0))).setCell ⟨gb671, 1, none⟩ (.int .i64 ((rd_T31 t643 x126_3).f1))).setCell ⟨gb671, 2, none⟩ (.int .i64 ((rd_T31 t643 x126_3).f2)))).cell? _ = some _ from hx673_0))
                 clear hn673_0
                 clear hn673_1
                 clear hn673_2
                 replace p673 := eq_true p673
                 replace q673 := eq_true q673
                 have hnT := fun W : World => neq_T31 W (rd_T31 t643 x126_3).f0 (rd_T31 t643 x126_3).f1 (rd_T31 t643 x126_3).f2 (rd_T31 t647 x126_3).f0 (rd_T31 t647 x126_3).f1 (rd_T31 t647 x126_3).f2
                 have hgT := fun (W : World) (x y : Operand) => eqGuard_T31 W x y #[.int .i64 (rd_T31 t643 x126_3).f0, .int .i64 (rd_T31 t643 x126_3).f1, .int .i64 (rd_T31 t643 x126_3).f2] #[.int .i64 (rd_T31 t647 x126_3).f0, .int .i64 (rd_T31 t647 x126_3).f1, .int .i64 (rd_T31 t647 x126_3).f2]
                 go_wp2
                 repeat (go_quiet (fail); try go_wp2)
                 go_meet
                 case rel => exact ⟨_, (true), (by first | rfl | (simp; done) | (simp [*]; done)), H', ⟨by have := HJ2.out; have := HJ9.out; have := HK3.out; first | omega | exact Nat.le_refl _⟩, ⟨by (with_reducible repeat first|apply Kd.Ra|apply Kd.Rn|apply Kd.Rw); exact Kd.R_mono (Kd.R_far (p := ⟨gb671, 2, none⟩) (Kd.R_far (p := ⟨gb671, 1, none⟩) (Kd.R_far (p := ⟨gb671, 0, none⟩) (Kd.R_mono HO_6.out (fun k_ hk => (⟨hk, hk.2⟩ : _ ∧ k_ ≠ gb671))) (fun _ hk => hk.2) (.int .i64 ((rd_T31 t643 x126_3).f0))) (fun _ hk => hk.2) (.int .i64 ((rd_T31 t643 x126_3).f1))) (fun _ hk => hk.2) (.int .i64 ((rd_T31 t643 x126_3).f2))) (fun _ hk => ⟨hk.1.1, hk.1.2⟩)⟩, ⟨by (with_reducible repeat first|apply Kd.Ra|apply Kd.Rn|apply Kd.Rw); exact Kd.R_mono (Kd.R_far (p := ⟨gb671, 2, none⟩) (Kd.R_far (p := ⟨gb671, 1, none⟩) (Kd.R_far (p := ⟨gb671, 0, none⟩) (Kd.R_mono HO_8.out (fun k_ hk => (⟨hk, hk.2⟩ : _ ∧ k_ ≠ gb671))) (fun _ hk => hk.2) (.int .i64 ((rd_T31 t643 x126_3).f0))) (fun _ hk => hk.2) (.int .i64 ((rd_T31 t643 x126_3).f1))) (fun _ hk => hk.2) (.int .i64 ((rd_T31 t643 x126_3).f2))) (fun _ hk => ⟨hk.1.1.1, ⟨hk.1.1.2, hk.1.2⟩⟩)⟩, ⟨by (with_reducible repeat first|apply Kd.Ra|apply Kd.Rn|apply Kd.Rw); exact Kd.R_mono (Kd.R_far (p := ⟨gb671, 2, none⟩) (Kd.R_far (p := ⟨gb671, 1, none⟩) (Kd.R_far (p := ⟨gb671, 0, none⟩) (Kd.R_types HO_10.out BK671.out (by decide)) (fun _ hk => hk.2) (.int .i64 ((rd_T31 t643 x126_3).f0))) (fun _ hk => hk.2) (.int .i64 ((rd_T31 t643 x126_3).f1))) (fun _ hk => hk.2) (.int .i64 ((rd_T31 t643 x126_3).f2))) (fun _ hk => trivial)⟩, ⟨by (with_reducible repeat first|apply Kd.Ra|apply Kd.Rn|apply Kd.Rw); exact Kd.R_mono (Kd.R_far (p := ⟨gb671, 2, none⟩) (Kd.R_far (p := ⟨gb671, 1, none⟩) (Kd.R_far (p := ⟨gb671, 0, none⟩) (Kd.R_types HO_16.out BK671.out (by decide)) (fun _ hk => hk.2) (.int .i64 ((rd_T31 t643 x126_3).f0))) (fun _ hk => hk.2) (.int .i64 ((rd_T31 t643 x126_3).f1))) (fun _ hk => hk.2) (.int .i64 ((rd_T31 t643 x126_3).f2))) (fun _ hk => trivial)⟩, ⟨by (with_reducible repeat first|apply Kd.Ra|apply Kd.Rn|apply Kd.Rw); exact Kd.R_mono (Kd.R_far (p := ⟨gb671, 2, none⟩) (Kd.R_far (p := ⟨gb671, 1, none⟩) (Kd.R_far (p := ⟨gb671, 0, none⟩) (Kd.R_mono HO_124.out (fun k_ hk => (⟨hk, hk.2⟩ : _ ∧ k_ ≠ gb671))) (fun _ hk => hk.2) (.int .i64 ((rd_T31 t643 x126_3).f0))) (fun _ hk => hk.2) (.int .i64 ((rd_T31 t643 x126_3).f1))) (fun _ hk => hk.2) (.int .i64 ((rd_T31 t643 x126_3).f2))) (fun _ hk => ⟨hk.1.1, hk.1.2⟩)⟩, ⟨by (with_reducible repeat first|refine blN ?_ _|refine bl1 ?_|refine blA ?_ _); refine blk_put (cs := #[.int .i64 ((rd_T31 t643 x126_3).f0), .int .i64 ((rd_T31 t643 x126_3).f1), .int .i64 0]) ?_ 2 _ rfl; (with_reducible repeat first|refine blN ?_ _|refine bl1 ?_|refine blA ?_ _); refine blk_put (cs := #[.int .i64 ((rd_T31 t643 x126_3).f0), .int .i64 0, .int .i64 0]) ?_ 1 _ rfl; (with_reducible repeat first|refine blN ?_ _|refine bl1 ?_|refine blA ?_ _); refine blk_put (cs := #[.int .i64 0, .int .i64 0, .int .i64 0]) ?_ 0 _ rfl; (with_reducible repeat first|refine blN ?_ _|refine bl1 ?_|refine blA ?_ _); exact BK671.out⟩, ⟨by repeat (first | (with_reducible first|exact HB.out|apply bA|apply bN|apply bD | refine below_set ?_ GE671.out) | exact HB.out)⟩⟩
               ·rw [if_neg c107] at H
                exact absurd H (by simp)
              ·rw [if_neg c106] at H
               exact absurd H (by simp)
             ·rw [if_neg c105] at H
              exact absurd H (by simp)
            ·rw [if_neg c104] at H
             exact absurd H (by simp)
          ·rw [if_neg c100] at H
           exact absurd H (by simp)
         case rest => as_aux_lemma =>
          clear HC97
          try clear c1
          try clear c2
          try clear p2
          try clear c3
          try clear c4
          try clear c4b0
          try clear c4b1
          try clear c5
          try clear c6
          try clear p6
          try clear q6
          try clear hx6
          try clear c9
          try clear c10
          try clear c11
          try clear c15
          try clear c15b0
          try clear c15b1
          try clear c15b2
          try clear c17
          try clear c18
          try clear c18b0
          try clear c18b1
          try clear c18b2
          try clear c23
          try clear c23b0
          try clear c23b1
          try clear c23b2
          try clear c28
          try clear c28b0
          try clear c28b1
          try clear c28b2
          try clear c31
          try clear c31b0
          try clear c31b1
          try clear c31b2
          try clear c57
          try clear c58
          try clear c58b0
          try clear c58b1
          try clear c58b2
          try clear c60
          try clear c61
          try clear c61b0
          try clear c61b1
          try clear c61b2
          try clear c63
          try clear c63b0
          try clear c63b1
          try clear c63b2
          try clear c64
          try clear c64b0
          try clear c64b1
          try clear c64b2
          try clear p64
          try clear p67
          try clear q67
          try clear hx67
          try clear c94
          try clear c94b0
          try clear c95
          try clear c95b0
          try clear c96
          try clear c96b0
          try clear c100
          try clear c100b0
          try clear c101
          try clear c101b0
          try clear c104
          try clear c104b0
          try clear c105
          try clear c105b0
          try clear c106
          try clear c106b0
          try clear c106b1
          try clear c107
          try clear c107b0
          try clear c107b1
          try clear c108
          try clear c108b0
          try clear c108b1
          try clear c109
          try clear c109b0
          try clear c113
          try clear c113b0
          try clear c115
          try clear c115b0
          try clear c116
          try clear c116b0
          try clear hcz102_0
          try clear hcz102_1
          try clear hcz102_2
          try clear hcz110_0
          try clear hcz110_1
          try clear hcz110_2
          try clear hcz117_0
          try clear hcz117_1
          try clear hcz117_2
          try clear hcz120_0
          try clear hcz120_1
          try clear hcz120_2
          try clear hcz123_0
          try clear hcz123_1
          try clear hcz123_2
          try clear hcz99_0
          try clear hcz99_1
          try clear hcz99_2
          try clear hfz102_0
          try clear hfz102_1
          try clear hfz102_2
          try clear hfz110_0
          try clear hfz110_1
          try clear hfz110_2
          try clear hfz117_0
          try clear hfz117_1
          try clear hfz117_2
          try clear hfz120_0
          try clear hfz120_1
          try clear hfz120_2
          try clear hfz123_0
          try clear hfz123_1
          try clear hfz123_2
          try clear hfz99_0
          try clear hfz99_1
          try clear hfz99_2
          try clear hx670_0
          try clear hx670_1
          try clear hx670_2
          try clear hx672_0
          try clear hx672_1
          try clear hx672_2
          try clear hx673_0
          try clear hx674_0
          try clear hx674_1
          try clear hx674_2
          try clear p2
          try clear p670
          try clear p672
          try clear p673
          try clear p674
          try clear q670
          try clear q672
          try clear q673
          try clear q674
          obtain ⟨kq, x167_96, rfl, HA, HJ96, HO_6, HO_8, HO_10, HO_16, HO_124, BK671, HB⟩ := hcut
          cases kq with
          | zero => exact absurd HA.out (by simp [laws_FnLives.j3])
          | succ kj96 =>
           have H := HA.out
           clear HA
           simp only [laws_FnLives.j3] at H
           by_cases c126 : x167_96 = true
           ·subst c126
            have H1 : (some false) = some r := by rw [if_pos rfl] at H; exact H
            clear H
            have H := H1
            clear H1
            obtain rfl := Option.some.inj H
            go_wp2
            repeat (go_quiet (fail); try go_wp2)
            go_ret
            exact ⟨by first | rfl | (simp [errW_none, errW_some] <;> rfl) | (simp [*, errW_none, errW_some] <;> rfl), by repeat (first | (with_reducible first|exact HB.out|apply bA|apply bN|apply bD | refine below_set ?_ GE671.out) | exact HB.out)⟩
           ·replace c126 := Bool.eq_false_iff.mpr c126
            subst c126
            have H1 : (if ((rd_T31 t643 x126_3).f2) ≥ 0 then (if ((rd_T31 t643 x126_3).f2) ≤ ((rd_T31 t643 x126_3).f1) then (some false) else (if 0 ≤ ((rd_T31 t643 x126_3).f2) then (if ((rd_T31 t643 x126_3).f2) < (t667.length : Int) then (if 0 ≤ 1 then (if 1 ≤ ((rdOf ByteArray.empty t667 ((rd_T31 t643 x126_3).f2)).size : Int) then (if ((rdOf ByteArray.empty t667 ((rd_T31 t643 x126_3).f2)).extract 0 1).toList = ([45] : List UInt8) then (if 0 ≤ ((rd_T31 t643 x126_3).f0) then (if ((rd_T31 t643 x126_3).f0) < (t667.length : Int) then (if 1 ≤ ((rdOf ByteArray.empty t667 ((rd_T31 t643 x126_3).f0)).size : Int) then (if ((rdOf ByteArray.empty t667 ((rd_T31 t643 x126_3).f2)).extract 1 (rdOf ByteArray.empty t667 ((rd_T31 t643 x126_3).f2)).size).toList = ((rdOf ByteArray.empty t667 ((rd_T31 t643 x126_3).f0)).extract 1 (rdOf ByteArray.empty t667 ((rd_T31 t643 x126_3).f0)).size).toList then (laws_FnLives.l0 kj96 t643 t647 t651 (wrap64 (x15_3 + 1)) t667 t643 (t643.length : Int) (wrap64 (x126_3 + 1))) else (some false)) else (none)) else (none)) else (none)) else (some false)) else (none)) else (none)) else (none)) else (none))) else (laws_FnLives.l0 kj96 t643 t647 t651 x15_3 t667 t643 (t643.length : Int) (wrap64 (x126_3 + 1)))) = some r := by rw [if_neg (show ¬ (false = true) by decide)] at H; exact H
            clear H
            have H := H1
            clear H1
            by_cases c127 : ((rd_T31 t643 x126_3).f2) ≥ 0
            ·rw [if_pos c127] at H
             have c127b0 : decide (0 ≤ ((rd_T31 t643 x126_3).f2)) = true := decide_eq_true c127
             clear c127
             by_cases c128 : ((rd_T31 t643 x126_3).f2) ≤ ((rd_T31 t643 x126_3).f1)
             ·rw [if_pos c128] at H
              have c128b0 : decide (((rd_T31 t643 x126_3).f2) ≤ ((rd_T31 t643 x126_3).f1)) = true := decide_eq_true c128
              clear c128
              obtain rfl := Option.some.inj H
              have hcz129_0 : wc.cell? ⟨gb671, 0, none⟩ = some (.int .i64 ((rd_T31 t643 x126_3).f0)) := (blk_cell BK671.out 0).trans rfl
              have hcz129_1 : wc.cell? ⟨gb671, 1, none⟩ = some (.int .i64 ((rd_T31 t643 x126_3).f1)) := (blk_cell BK671.out 1).trans rfl
              have hcz129_2 : wc.cell? ⟨gb671, 2, none⟩ = some (.int .i64 ((rd_T31 t643 x126_3).f2)) := (blk_cell BK671.out 2).trans rfl
              have hfz129_0 := blk_frozen BK671.out 0
              have hfz129_1 := blk_frozen BK671.out 1
              have hfz129_2 := blk_frozen BK671.out 2
              go_wp2
              repeat (go_quiet (fail); try go_wp2)
              go_ret
              exact ⟨by first | rfl | (simp [errW_none, errW_some] <;> rfl) | (simp [*, errW_none, errW_some] <;> rfl), by repeat (first | (with_reducible first|exact HB.out|apply bA|apply bN|apply bD | refine below_set ?_ GE671.out) | exact HB.out)⟩
             ·rw [if_neg c128] at H
              have c128b0 : decide (((rd_T31 t643 x126_3).f2) ≤ ((rd_T31 t643 x126_3).f1)) = false := decide_eq_false c128
              clear c128
              by_cases c130 : 0 ≤ ((rd_T31 t643 x126_3).f2)
              ·rw [if_pos c130] at H
               have c130b0 : decide (0 ≤ ((rd_T31 t643 x126_3).f2)) = true := decide_eq_true c130
               clear c130
               by_cases c131 : ((rd_T31 t643 x126_3).f2) < (t667.length : Int)
               ·rw [if_pos c131] at H
                have c131b0 : decide (((rd_T31 t643 x126_3).f2) < (t667.length : Int)) = true := decide_eq_true c131
                clear c131
                by_cases c132 : 0 ≤ 1
                ·rw [if_pos c132] at H
                 have c132b0 := eq_true c132
                 have c132b1 : decide (0 ≤ 1) = true := decide_eq_true c132
                 clear c132
                 by_cases c133 : 1 ≤ ((rdOf ByteArray.empty t667 ((rd_T31 t643 x126_3).f2)).size : Int)
                 ·rw [if_pos c133] at H
                  have c133b0 := eq_true c133
                  have c133b1 : decide (1 ≤ ((rdOf ByteArray.empty t667 ((rd_T31 t643 x126_3).f2)).size : Int)) = true := decide_eq_true c133
                  clear c133
                  by_cases c134 : ((rdOf ByteArray.empty t667 ((rd_T31 t643 x126_3).f2)).extract 0 1).toList = ([45] : List UInt8)
                  ·rw [if_pos c134] at H
                   have c134b0 : (((rdOf ByteArray.empty t667 ((rd_T31 t643 x126_3).f2)).extract 0 1).toList == ([45] : List UInt8)) = true := beq_iff_eq.mpr c134
                   have c134b1 : (((rdOf ByteArray.empty t667 ((rd_T31 t643 x126_3).f2)).extract 0 1).toList != ([45] : List UInt8)) = false := bne_eq_false_iff_eq.mpr c134
                   clear c134
                   have c135b0 := eq_true (of_decide_eq_true (by first|(with_reducible assumption)|assumption) : 1 ≤ ((rdOf ByteArray.empty t667 ((rd_T31 t643 x126_3).f2)).size : Int))
                   by_cases c136 : 0 ≤ ((rd_T31 t643 x126_3).f0)
                   ·rw [if_pos c136] at H
                    have c136b0 : decide (0 ≤ ((rd_T31 t643 x126_3).f0)) = true := decide_eq_true c136
                    clear c136
                    by_cases c137 : ((rd_T31 t643 x126_3).f0) < (t667.length : Int)
                    ·rw [if_pos c137] at H
                     have c137b0 : decide (((rd_T31 t643 x126_3).f0) < (t667.length : Int)) = true := decide_eq_true c137
                     clear c137
                     by_cases c138 : 1 ≤ ((rdOf ByteArray.empty t667 ((rd_T31 t643 x126_3).f0)).size : Int)
                     ·rw [if_pos c138] at H
                      have c138b0 := eq_true c138
                      have c138b1 : decide (1 ≤ ((rdOf ByteArray.empty t667 ((rd_T31 t643 x126_3).f0)).size : Int)) = true := decide_eq_true c138
                      clear c138
                      by_cases c139 : ((rdOf ByteArray.empty t667 ((rd_T31 t643 x126_3).f2)).extract 1 (rdOf ByteArray.empty t667 ((rd_T31 t643 x126_3).f2)).size).toList = ((rdOf ByteArray.empty t667 ((rd_T31 t643 x126_3).f0)).extract 1 (rdOf ByteArray.empty t667 ((rd_T31 t643 x126_3).f0)).size).toList
                      ·rw [if_pos c139] at H
                       have c139b0 : (((rdOf ByteArray.empty t667 ((rd_T31 t643 x126_3).f2)).extract 1 (rdOf ByteArray.empty t667 ((rd_T31 t643 x126_3).f2)).size).toList == ((rdOf ByteArray.empty t667 ((rd_T31 t643 x126_3).f0)).extract 1 (rdOf ByteArray.empty t667 ((rd_T31 t643 x126_3).f0)).size).toList) = true := beq_iff_eq.mpr c139
                       have c139b1 : (((rdOf ByteArray.empty t667 ((rd_T31 t643 x126_3).f2)).extract 1 (rdOf ByteArray.empty t667 ((rd_T31 t643 x126_3).f2)).size).toList != ((rdOf ByteArray.empty t667 ((rd_T31 t643 x126_3).f0)).extract 1 (rdOf ByteArray.empty t667 ((rd_T31 t643 x126_3).f0)).size).toList) = false := bne_eq_false_iff_eq.mpr c139
                       clear c139
                       have H' := Az.mk H
                       clear H
                       have hcz140_0 : wc.cell? ⟨gb671, 0, none⟩ = some (.int .i64 ((rd_T31 t643 x126_3).f0)) := (blk_cell BK671.out 0).trans rfl
                       have hcz140_1 : wc.cell? ⟨gb671, 1, none⟩ = some (.int .i64 ((rd_T31 t643 x126_3).f1)) := (blk_cell BK671.out 1).trans rfl
                       have hcz140_2 : wc.cell? ⟨gb671, 2, none⟩ = some (.int .i64 ((rd_T31 t643 x126_3).f2)) := (blk_cell BK671.out 2).trans rfl
                       have hfz140_0 := blk_frozen BK671.out 0
                       have hfz140_1 := blk_frozen BK671.out 1
                       have hfz140_2 := blk_frozen BK671.out 2
                       obtain ⟨Ao141, co141, eo141⟩ := Kd.R_slice HO_16.out
                       subst eo141
                       have p675 : 0 ≤ (((rd_T31 t643 x126_3).f2) : Int) := of_decide_eq_true (by first|(with_reducible assumption)|assumption)
                       have q675 : ((rd_T31 t643 x126_3).f2) < (t667.length : Int) := of_decide_eq_true (by first|(with_reducible assumption)|assumption)
                       obtain ⟨ad675, e675, hx675_0⟩ := Kd.at_string (Kd.R_reads' HO_16.out).2.2 ((rd_T31 t643 x126_3).f2) p675 q675
                       cases e675
                       replace p675 := eq_true p675
                       replace q675 := eq_true q675
                       have p676 : 0 ≤ (((rd_T31 t643 x126_3).f2) : Int) := of_decide_eq_true (by first|(with_reducible assumption)|assumption)
                       have q676 : ((rd_T31 t643 x126_3).f2) < (t667.length : Int) := of_decide_eq_true (by first|(with_reducible assumption)|assumption)
                       obtain ⟨ad676, e676, hx676_0⟩ := Kd.at_string (Kd.R_reads' HO_16.out).2.2 ((rd_T31 t643 x126_3).f2) p676 q676
                       obtain rfl : ad675 = ad676 := (by injection e676)
                       replace p676 := eq_true p676
                       replace q676 := eq_true q676
                       have p677 : 0 ≤ (((rd_T31 t643 x126_3).f0) : Int) := of_decide_eq_true (by first|(with_reducible assumption)|assumption)
                       have q677 : ((rd_T31 t643 x126_3).f0) < (t667.length : Int) := of_decide_eq_true (by first|(with_reducible assumption)|assumption)
                       obtain ⟨ad677, e677, hx677_0⟩ := Kd.at_string (Kd.R_reads' HO_16.out).2.2 ((rd_T31 t643 x126_3).f0) p677 q677
                       obtain rfl : ad675 = ad677 := (by injection e677)
                       replace p677 := eq_true p677
                       replace q677 := eq_true q677
                       go_wp2
                       repeat (go_quiet (fail); try go_wp2)
                       go_roundg kj96
                       case measure => have := HJ2.out; have := HJ9.out; have := HK3.out; have := HJ96.out; omega
                       case rel => exact ⟨(wrap64 (x15_3 + 1)), (wrap64 (x126_3 + 1)), (by first | rfl | (simp; done) | (simp [*]; done)), (by first | rfl | (simp; done) | (simp [*]; done)), H', ⟨by have := HJ2.out; have := HJ9.out; have := HK3.out; have := HJ96.out; omega⟩, ⟨by (with_reducible repeat first|apply Kd.Ra|apply Kd.Rn|apply Kd.Rw); exact Kd.R_mono HO_6.out (fun _ hk => hk.1)⟩, ⟨by (with_reducible repeat first|apply Kd.Ra|apply Kd.Rn|apply Kd.Rw); exact Kd.R_mono HO_8.out (fun _ hk => ⟨hk.1, hk.2.1⟩)⟩, ⟨by (with_reducible repeat first|apply Kd.Ra|apply Kd.Rn|apply Kd.Rw); exact HO_10.out⟩, ⟨by (with_reducible repeat first|apply Kd.Ra|apply Kd.Rn|apply Kd.Rw); exact HO_16.out⟩, ⟨by (with_reducible repeat first|apply Kd.Ra|apply Kd.Rn|apply Kd.Rw); exact Kd.R_mono HO_124.out (fun _ hk => hk.1)⟩, ⟨by repeat (first | (with_reducible first|exact HB.out|apply bA|apply bN|apply bD | refine below_set ?_ GE671.out) | exact HB.out)⟩⟩
                      ·rw [if_neg c139] at H
                       have c139b0 : (((rdOf ByteArray.empty t667 ((rd_T31 t643 x126_3).f2)).extract 1 (rdOf ByteArray.empty t667 ((rd_T31 t643 x126_3).f2)).size).toList == ((rdOf ByteArray.empty t667 ((rd_T31 t643 x126_3).f0)).extract 1 (rdOf ByteArray.empty t667 ((rd_T31 t643 x126_3).f0)).size).toList) = false := beq_eq_false_iff_ne.mpr c139
                       have c139b1 : (((rdOf ByteArray.empty t667 ((rd_T31 t643 x126_3).f2)).extract 1 (rdOf ByteArray.empty t667 ((rd_T31 t643 x126_3).f2)).size).toList != ((rdOf ByteArray.empty t667 ((rd_T31 t643 x126_3).f0)).extract 1 (rdOf ByteArray.empty t667 ((rd_T31 t643 x126_3).f0)).size).toList) = true := bne_iff_ne.mpr c139
                       obtain rfl := Option.some.inj H
                       have hcz142_0 : wc.cell? ⟨gb671, 0, none⟩ = some (.int .i64 ((rd_T31 t643 x126_3).f0)) := (blk_cell BK671.out 0).trans rfl
                       have hcz142_1 : wc.cell? ⟨gb671, 1, none⟩ = some (.int .i64 ((rd_T31 t643 x126_3).f1)) := (blk_cell BK671.out 1).trans rfl
                       have hcz142_2 : wc.cell? ⟨gb671, 2, none⟩ = some (.int .i64 ((rd_T31 t643 x126_3).f2)) := (blk_cell BK671.out 2).trans rfl
                       have hfz142_0 := blk_frozen BK671.out 0
                       have hfz142_1 := blk_frozen BK671.out 1
                       have hfz142_2 := blk_frozen BK671.out 2
                       obtain ⟨Ao143, co143, eo143⟩ := Kd.R_slice HO_16.out
                       subst eo143
                       have p675 : 0 ≤ (((rd_T31 t643 x126_3).f2) : Int) := of_decide_eq_true (by first|(with_reducible assumption)|assumption)
                       have q675 : ((rd_T31 t643 x126_3).f2) < (t667.length : Int) := of_decide_eq_true (by first|(with_reducible assumption)|assumption)
                       obtain ⟨ad675, e675, hx675_0⟩ := Kd.at_string (Kd.R_reads' HO_16.out).2.2 ((rd_T31 t643 x126_3).f2) p675 q675
                       cases e675
                       replace p675 := eq_true p675
                       replace q675 := eq_true q675
                       have p676 : 0 ≤ (((rd_T31 t643 x126_3).f2) : Int) := of_decide_eq_true (by first|(with_reducible assumption)|assumption)
                       have q676 : ((rd_T31 t643 x126_3).f2) < (t667.length : Int) := of_decide_eq_true (by first|(with_reducible assumption)|assumption)
                       obtain ⟨ad676, e676, hx676_0⟩ := Kd.at_string (Kd.R_reads' HO_16.out).2.2 ((rd_T31 t643 x126_3).f2) p676 q676
                       obtain rfl : ad675 = ad676 := (by injection e676)
                       replace p676 := eq_true p676
                       replace q676 := eq_true q676
                       have p677 : 0 ≤ (((rd_T31 t643 x126_3).f0) : Int) := of_decide_eq_true (by first|(with_reducible assumption)|assumption)
                       have q677 : ((rd_T31 t643 x126_3).f0) < (t667.length : Int) := of_decide_eq_true (by first|(with_reducible assumption)|assumption)
                       obtain ⟨ad677, e677, hx677_0⟩ := Kd.at_string (Kd.R_reads' HO_16.out).2.2 ((rd_T31 t643 x126_3).f0) p677 q677
                       obtain rfl : ad675 = ad677 := (by injection e677)
                       replace p677 := eq_true p677
                       replace q677 := eq_true q677
                       go_wp2
                       repeat (go_quiet (fail); try go_wp2)
                       go_ret
                       exact ⟨by first | rfl | (simp [errW_none, errW_some] <;> rfl) | (simp [*, errW_none, errW_some] <;> rfl), by repeat (first | (with_reducible first|exact HB.out|apply bA|apply bN|apply bD | refine below_set ?_ GE671.out) | exact HB.out)⟩
                     ·rw [if_neg c138] at H
                      exact absurd H (by simp)
                    ·rw [if_neg c137] at H
                     exact absurd H (by simp)
                   ·rw [if_neg c136] at H
                    exact absurd H (by simp)
                  ·rw [if_neg c134] at H
                   have c134b0 : (((rdOf ByteArray.empty t667 ((rd_T31 t643 x126_3).f2)).extract 0 1).toList == ([45] : List UInt8)) = false := beq_eq_false_iff_ne.mpr c134
                   have c134b1 : (((rdOf ByteArray.empty t667 ((rd_T31 t643 x126_3).f2)).extract 0 1).toList != ([45] : List UInt8)) = true := bne_iff_ne.mpr c134
                   obtain rfl := Option.some.inj H
                   have hcz144_0 : wc.cell? ⟨gb671, 0, none⟩ = some (.int .i64 ((rd_T31 t643 x126_3).f0)) := (blk_cell BK671.out 0).trans rfl
                   have hcz144_1 : wc.cell? ⟨gb671, 1, none⟩ = some (.int .i64 ((rd_T31 t643 x126_3).f1)) := (blk_cell BK671.out 1).trans rfl
                   have hcz144_2 : wc.cell? ⟨gb671, 2, none⟩ = some (.int .i64 ((rd_T31 t643 x126_3).f2)) := (blk_cell BK671.out 2).trans rfl
                   have hfz144_0 := blk_frozen BK671.out 0
                   have hfz144_1 := blk_frozen BK671.out 1
                   have hfz144_2 := blk_frozen BK671.out 2
                   obtain ⟨Ao145, co145, eo145⟩ := Kd.R_slice HO_16.out
                   subst eo145
                   have p675 : 0 ≤ (((rd_T31 t643 x126_3).f2) : Int) := of_decide_eq_true (by first|(with_reducible assumption)|assumption)
                   have q675 : ((rd_T31 t643 x126_3).f2) < (t667.length : Int) := of_decide_eq_true (by first|(with_reducible assumption)|assumption)
                   obtain ⟨ad675, e675, hx675_0⟩ := Kd.at_string (Kd.R_reads' HO_16.out).2.2 ((rd_T31 t643 x126_3).f2) p675 q675
                   cases e675
                   replace p675 := eq_true p675
                   replace q675 := eq_true q675
                   go_wp2
                   repeat (go_quiet (fail); try go_wp2)
                   go_ret
                   exact ⟨by first | rfl | (simp [errW_none, errW_some] <;> rfl) | (simp [*, errW_none, errW_some] <;> rfl), by repeat (first | (with_reducible first|exact HB.out|apply bA|apply bN|apply bD | refine below_set ?_ GE671.out) | exact HB.out)⟩
                 ·rw [if_neg c133] at H
                  exact absurd H (by simp)
                ·rw [if_neg c132] at H
                 exact absurd H (by simp)
               ·rw [if_neg c131] at H
                exact absurd H (by simp)
              ·rw [if_neg c130] at H
               exact absurd H (by simp)
            ·rw [if_neg c127] at H
             have c127b0 : decide (0 ≤ ((rd_T31 t643 x126_3).f2)) = false := decide_eq_false c127
             clear c127
             have H' := Az.mk H
             clear H
             have hcz146_0 : wc.cell? ⟨gb671, 0, none⟩ = some (.int .i64 ((rd_T31 t643 x126_3).f0)) := (blk_cell BK671.out 0).trans rfl
             have hcz146_1 : wc.cell? ⟨gb671, 1, none⟩ = some (.int .i64 ((rd_T31 t643 x126_3).f1)) := (blk_cell BK671.out 1).trans rfl
             have hcz146_2 : wc.cell? ⟨gb671, 2, none⟩ = some (.int .i64 ((rd_T31 t643 x126_3).f2)) := (blk_cell BK671.out 2).trans rfl
             have hfz146_0 := blk_frozen BK671.out 0
             have hfz146_1 := blk_frozen BK671.out 1
             have hfz146_2 := blk_frozen BK671.out 2
             go_wp2
             repeat (go_quiet (fail); try go_wp2)
             go_roundg kj96
             case measure => have := HJ2.out; have := HJ9.out; have := HK3.out; have := HJ96.out; omega
             case rel => exact ⟨(x15_3), (wrap64 (x126_3 + 1)), (by first | rfl | (simp; done) | (simp [*]; done)), (by first | rfl | (simp; done) | (simp [*]; done)), H', ⟨by have := HJ2.out; have := HJ9.out; have := HK3.out; have := HJ96.out; omega⟩, ⟨by (with_reducible repeat first|apply Kd.Ra|apply Kd.Rn|apply Kd.Rw); exact Kd.R_mono HO_6.out (fun _ hk => hk.1)⟩, ⟨by (with_reducible repeat first|apply Kd.Ra|apply Kd.Rn|apply Kd.Rw); exact Kd.R_mono HO_8.out (fun _ hk => ⟨hk.1, hk.2.1⟩)⟩, ⟨by (with_reducible repeat first|apply Kd.Ra|apply Kd.Rn|apply Kd.Rw); exact HO_10.out⟩, ⟨by (with_reducible repeat first|apply Kd.Ra|apply Kd.Rn|apply Kd.Rw); exact HO_16.out⟩, ⟨by (with_reducible repeat first|apply Kd.Ra|apply Kd.Rn|apply Kd.Rw); exact Kd.R_mono HO_124.out (fun _ hk => hk.1)⟩, ⟨by repeat (first | (with_reducible first|exact HB.out|apply bA|apply bN|apply bD | refine below_set ?_ GE671.out) | exact HB.out)⟩⟩
        ·rw [if_neg c96] at H
         exact absurd H (by simp)
       ·rw [if_neg c95] at H
        exact absurd H (by simp)
      ·rw [if_neg c94] at H
       have c94b0 : decide (x126_3 < (t643.length : Int)) = false := decide_eq_false c94
       clear c94
       obtain rfl := Option.some.inj H
       obtain ⟨Ao147, co147, eo147⟩ := Kd.R_slice HO_10.out
       subst eo147
       go_wp2
       repeat (go_quiet (fail); try go_wp2)
       go_ret
       exact ⟨by first | rfl | (simp [errW_none, errW_some] <;> rfl) | (simp [*, errW_none, errW_some] <;> rfl), by repeat (first | (with_reducible first|exact HB.out|apply bA|apply bN|apply bD) | exact HB.out)⟩
def laws_FnLives.Pure : Prop := ∀ (a0 a1 : ByteArray), a0.size ≤ 900000 → a1.size ≤ 900000 → ∃ k, laws_FnLives.f k a0 a1 = some true
end Go.Proofs.YtndjbnkmhpbnpaaGreatDoor.Pr
namespace Go.Proofs.YtndjbnkmhpbnpaaGreatDoor.Pr
open Go.RowKit Go.Proofs.YtndjbnkmhpbnpaaGreatDoorW.PrintWords Go.Proofs.YtndjbnkmhpbnpaaGreatDoorW.PrintLast Go.Proofs.YtndjbnkmhpbnpaaGreatDoorW.PrintMore
set_option linter.unusedVariables false
set_option linter.unusedSimpArgs false
theorem word_of {o : List S55} {W : List ByteArray} (hW : W.map (·.data.toList) = o.map piece) {k : Nat} {e : S55} (he : o[k]? = some e) {c : UInt8} (hs : e.f0.toList = [c]) :
  k < W.length ∧ 1 ≤ (rdOf ByteArray.empty W (k : Int)).size ∧ ((rdOf ByteArray.empty W (k : Int)).extract 0 1).toList = [c] ∧ ((rdOf ByteArray.empty W (k : Int)).extract 1 (rdOf ByteArray.empty W (k : Int)).size).toList = Lib.itoa e.f1 := by
 have hk : k < o.length := (List.getElem?_eq_some_iff.1 he).1
 have hl : W.length = o.length := by
  have := congrArg List.length hW
  simpa using this
 have hkW : k < W.length := by omega
 have hd : rdOf ByteArray.empty W (k : Int) = W[k] := by
  unfold rdOf
  rw [Int.toNat_natCast, List.getD_eq_getElem?_getD, List.getElem?_eq_getElem hkW]
  rfl
 have hp : W[k].data.toList = c :: Lib.itoa e.f1 := by
  have h1 : (W.map (·.data.toList))[k]? = (o.map piece)[k]? := by rw [hW]
  rw [List.getElem?_map, List.getElem?_map, he, List.getElem?_eq_getElem hkW] at h1
  simp only [Option.map_some] at h1
  injection h1 with h1
  rw [h1]
  unfold piece
  rw [hs]
  rfl
 have hsz : W[k].size = (Lib.itoa e.f1).length + 1 := by
  have := congrArg List.length hp
  simp only [List.length_cons, Array.length_toList] at this
  exact this
 rw [hd]
 refine ⟨hkW, by omega, ?_, ?_⟩
 ·have := extract_one W[k] 0 (by omega)
  rw [Lib.toList_data, this]
  simp [hp]
 ·rw [Lib.toList_data, ByteArray.data_extract, Array.toList_extract, List.extract_eq_take_drop, hp, hsz]
  simp
theorem lft_count : ∀ (xs : List S31) (i : Int), (lft xs i).length + xs.countP (fun L => decide (0 ≤ L.f2)) = xs.length
 | [], i => by simp [lft]
 | a :: r, i => by
  have ih := lft_count r (i + 1)
  rw [lft]
  by_cases h : a.f2 < 0
  ·rw [if_pos h, List.countP_cons_of_neg (by simp; omega)]
   simp only [List.length_cons]
   omega
  ·rw [if_neg h, List.countP_cons_of_pos (by simp; omega)]
   simp only [List.length_cons]
   omega
theorem lives_j3 {o : List S55} {W : List ByteArray} (ho : o.length ≤ 600) (hW : W.map (·.data.toList) = o.map piece) {i : Nat} {L : S31} (S : LvSp o i L) {l : List Int} (K : LvOk o.length l i L) (hi : i ≤ 600) {xs : List S31} {left : List Int} {c : Nat} (hc : c ≤ 600)
  (h : Ev (fun k => laws_FnLives.l0 k xs xs left (((if 0 ≤ L.f2 then c + 1 else c : Nat)) : Int) W xs (xs.length : Int) ((i + 1 : Nat) : Int)) true) :
  Ev (fun k => laws_FnLives.j3 k xs xs left (c : Int) W xs (xs.length : Int) (i : Int) false L.f0 L.f1 L.f2) true := by
 have hd := K.ud
 obtain ⟨b, hb, eb, b1, b2, b3⟩ := S.born
 obtain ⟨w1, w2, w3, w4⟩ := word_of hW b1 b2
 refine Ev.step (fun k => laws_FnLives.j3.eq_2 (k := k) ..) ?_
 simp only [Bool.false_eq_true, if_false, wrap_up (show i ≤ 1000000000 by omega), wrap_up (show c ≤ 1000000000 by omega)]
 by_cases h0 : 0 ≤ L.f2
 ·obtain ⟨d, hdd, ed, d1, d2, d3⟩ := S.dead h0
  obtain ⟨v1, v2, v3, v4⟩ := word_of hW d1 d2
  rw [if_pos h0] at h
  have hlt := hd h0
  rw [hb] at *
  rw [hdd] at *
  simp only [if_pos (show (d : Int) ≥ 0 by omega), if_neg (show ¬ ((d : Int) ≤ L.f1) by omega), if_pos (show (0 : Int) ≤ (d : Int) by omega), if_pos (show (d : Int) < (W.length : Int) by omega), if_pos (show (0 : Int) ≤ 1 by decide), if_pos (show (1 : Int) ≤ ((rdOf ByteArray.empty W (d : Int)).size : Int) by omega), if_pos v3, if_pos (show (0 : Int) ≤ (b : Int) by omega), if_pos (show (b : Int) < (W.length : Int) by omega), if_pos (show (1 : Int) ≤ ((rdOf ByteArray.empty W (b : Int)).size : Int) by omega), if_pos (show ((rdOf ByteArray.empty W (d : Int)).extract 1 (rdOf ByteArray.empty W (d : Int)).size).toList = ((rdOf ByteArray.empty W (b : Int)).extract 1 (rdOf ByteArray.empty W (b : Int)).size).toList by rw [v4, w4, b3, d3])]
  exact h
 ·rw [if_neg h0] at h
  simp only [if_neg (show ¬ L.f2 ≥ 0 by omega)]
  exact h
theorem livesL_go {o : List S55} {m : Nat} {l : List Int} (g : Good o m l) (ho : o.length ≤ 600) (W : List ByteArray) (hW : o ≠ [] → W.map (·.data.toList) = o.map piece) : ∀ (d i c : Nat), i + d = (lvs o).length → c = ((lvs o).take i).countP (fun L => decide (0 ≤ L.f2)) →
  Ev (fun k => laws_FnLives.l0 k (lvs o) (lvs o) (lft (lvs o) 0) (c : Int) W (lvs o) ((lvs o).length : Int) (i : Int)) true
 | 0, i, c, hi, hc => by
  have h1 := lft_count (lvs o) 0
  have hlv := g.lvs_length
  have hm := g.made
  rw [List.take_of_length_le (by omega)] at hc
  refine Ev.step (fun k => laws_FnLives.l0.eq_2 (k := k) ..) ?_
  have hb : (wrap64 ((c : Int) + ((lft (lvs o) 0).length : Int)) == ((lvs o).length : Int)) = true := by
   rw [beq_iff_eq, wrap_small (by omega) (by omega)]
   omega
  simp only [if_neg (show ¬ ((i : Int) < ((lvs o).length : Int)) by omega), hb]
  exact Ev.now _
 | d + 1, i, c, hi, hc => by
  have hlv := g.lvs_length
  have hm := g.made
  have hne : o ≠ [] := fun hh => by subst hh; simp [lvs, lvgo] at hi
  obtain ⟨j, hj, hg, S, K⟩ := g.lv_at (n := ((i + 1 : Nat) : Int)) (by omega) (by omega)
  rw [show ((i + 1 : Nat) : Int) - 1 = (i : Int) by omega] at S K hg
  obtain rfl : j = i := by omega
  have hcle : c ≤ j := by rw [hc]; exact Nat.le_trans List.countP_le_length (by rw [List.length_take]; omega)
  have hnext : (if 0 ≤ (rd_T31 (lvs o) (j : Int)).f2 then c + 1 else c) = ((lvs o).take (j + 1)).countP (fun L => decide (0 ≤ L.f2)) := by
   have e : (lvs o).take (j + 1) = (lvs o).take j ++ [rd_T31 (lvs o) (j : Int)] := by
    have hlt : j < (lvs o).length := by omega
    rw [List.take_succ_eq_append_getElem hlt]
    rw [List.getElem?_eq_getElem hlt] at hg
    injection hg with hg
    rw [hg]
   rw [e, List.countP_append, ← hc, List.countP_singleton]
   by_cases h0 : 0 ≤ (rd_T31 (lvs o) (j : Int)).f2
   ·rw [if_pos h0, if_pos (by simpa using h0)]
   ·rw [if_neg h0, if_neg (by simpa using h0)]
    rfl
  have ih := livesL_go g ho W hW d (j + 1) _ (by omega) hnext
  have hj3 := lives_j3 ho (hW hne) S K (by omega) (by omega) ih
  obtain ⟨b, hb, eb, b1, b2, b3⟩ := S.born
  obtain ⟨w1, w2, w3, w4⟩ := word_of (hW hne) b1 b2
  have hK1 := K.born; have hK2 := K.used; have hK3 := K.un
  refine Ev.step (fun k => laws_FnLives.l0.eq_2 (k := k) ..) ?_
  simp only [if_pos (show ((j : Int) < ((lvs o).length : Int)) by omega), if_pos (show (0 : Int) ≤ (j : Int) by omega), beq_self_eq_true, Bool.not_true, Bool.or_self, Bool.false_eq_true, if_false]
  rw [hb] at hj3 ⊢
  simp only [if_pos (show (0 : Int) ≤ (b : Int) by omega), if_pos (show (b : Int) < (W.length : Int) by omega), if_pos (show (0 : Int) ≤ 1 by decide), if_pos (show (1 : Int) ≤ ((rdOf ByteArray.empty W (b : Int)).size : Int) by omega), if_pos w3, if_neg (show ¬ ((rd_T31 (lvs o) (j : Int)).f1 < (b : Int)) by omega)]
  by_cases h0 : (j : Int) > 0
  ·obtain ⟨p, rfl⟩ : ∃ p, j = p + 1 := ⟨j - 1, by omega⟩
   have hw : wrap64 (((p + 1 : Nat) : Int) - 1) = (p : Int) := by rw [wrap_small (by omega) (by omega)]; omega
   obtain ⟨q, hq, hg2, S2, K2⟩ := g.lv_at (n := ((p + 1 : Nat) : Int)) (by omega) (by omega)
   rw [show ((p + 1 : Nat) : Int) - 1 = (p : Int) by omega] at S2
   have hlt := born_lt g S2 S (by omega)
   simp only [if_pos h0, hw, if_pos (show (0 : Int) ≤ (p : Int) by omega), if_pos (show (p : Int) < ((lvs o).length : Int) by omega), decide_eq_false (show ¬ ((rd_T31 (lvs o) (p : Int)).f0 ≥ (b : Int)) by omega)]
   exact hj3
  ·simp only [if_neg h0]
   exact hj3
theorem validI_f (a0 : ByteArray) (hs : a0.size ≤ 1048576) : impl_EventsValid.f a0 = some (toldOf a0).2.2 := by
 unfold impl_EventsValid.f
 rw [told_f a0 hs]
 rfl
theorem validS_ev (a0 : ByteArray) (hs : a0.size ≤ 1048576) : Ev (fun k => spec_EventsValid.f k a0) (toldOf a0).2.2 := by
 unfold spec_EventsValid.f
 exact Ev.bind (l7Read_ev a0 hs) (Ev.now _)
theorem fnLives_plain : laws_FnLives.Pure := by
 intro a0 a1 ha ha1
 have hs : a0.size ≤ 1048576 := by omega
 have hs1 : a1.size ≤ 1048576 := by omega
 have E1 := elSame_ev (overOf a0).1 (by have := overOf_len a0; omega)
 refine Ev.rounds ?_
 unfold laws_FnLives.f
 simp only [if_neg (show ¬ ((a0.size : Int) > 1048576) by omega), decide_eq_false (show ¬ ((a1.size : Int) > 1048576) by omega)]
 refine Ev.step (fun k => laws_FnLives.j0.eq_2 (k := k) ..) ?_
 simp only [Bool.false_eq_true, if_false, ofLives_told a0 hs, Option.bind_some]
 refine Ev.bind (ofLives_ev a0 hs) (Ev.bind (leftI_ev a0 hs) (Ev.bind (leftS_ev a0 hs) ?_))
 simp only [bne_self_eq_false, Bool.false_eq_true, if_false]
 refine Ev.bind E1 ?_
 have hsame : (overOf a0).2 = (toldOf a0).2.2 := by
  unfold overOf
  cases (toldOf a0).2.2 <;> rfl
 have hsame2 : (if (toldOf a0).2.2 = true then (lvs (toldOf a0).1, true) else (([], false) : List S31 × Bool)).2 = (toldOf a0).2.2 := by
  cases (toldOf a0).2.2 <;> rfl
 simp only [if_true, hsame, hsame2, bne_self_eq_false, Bool.false_eq_true, if_false, validI_f a0 hs, validI_f a1 hs1, Option.bind_some]
 refine Ev.bind (validS_ev a1 hs1) ?_
 simp only [bne_self_eq_false, Bool.false_eq_true, if_false]
 refine Ev.step (fun k => laws_FnLives.j1.eq_2 (k := k) ..) ?_
 cases hok : (toldOf a0).2.2
 ·simp only [Bool.not_false, if_true, beq_self_eq_true]
  refine Ev.bind E1 ?_
  simp only [if_true, validI_f a0 hs, validI_f a1 hs1, Option.bind_some, hok, beq_self_eq_true, Bool.false_eq_true, if_false]
  refine Ev.bind (validS_ev a1 hs1) ?_
  simp only [beq_self_eq_true]
  exact Ev.now _
 ·obtain ⟨m, l, g, hm, hl⟩ := told_good a0
  obtain ⟨W, hW1, hW2⟩ := elWords_ev a0 hs
  rw [told_words hok g] at hW2
  have hov : (overOf a0).1 = lft (lvs (toldOf a0).1) 0 := by
   unfold overOf
   rw [if_pos hok]
  simp only [Bool.not_true, Bool.false_eq_true, if_false, if_true, hov]
  refine Ev.bind hW1 ?_
  exact livesL_go g hl W (fun hne => by rw [hW2, if_neg hne]) (lvs (toldOf a0).1).length 0 0 (Nat.zero_add _) (by simp)
end Go.Proofs.YtndjbnkmhpbnpaaGreatDoor.Pr
namespace Go.Proofs.YtndjbnkmhpbnpaaGreatDoor.Pure
open Go.Proofs.YtndjbnkmhpbnpaaGreatDoor.Pr
theorem FnLives : laws_FnLives.Pure := Pr.fnLives_plain
end Go.Proofs.YtndjbnkmhpbnpaaGreatDoor.Pure
