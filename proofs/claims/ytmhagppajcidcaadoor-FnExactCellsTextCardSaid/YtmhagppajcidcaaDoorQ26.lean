/- spec_CellsText: a Lean function, and that the call does what it does (made by a program out of the kit's print over stubs, with a hypothesis on the listed variables; Lean checks it). -/
import Derived.Test.YtmhagppajcidcaaDoorQ0
import Derived.Test.YtmhagppajcidcaaDoorQ28
import Derived.Test.YtmhagppajcidcaaDoorQ29
import Derived.Test.YtmhagppajcidcaaDoorQ33
import Derived.Test.YtmhagppajcidcaaDoorQ35
import Derived.Test.YtmhagppajcidcaaDoorQ41
import Derived.Test.YtmhagppajcidcaaDoorQ42
namespace Go.Proofs.YtmhagppajcidcaaDoor.Pr
open Go.RowKit Go.Proofs.YtmhagppajcidcaaDoorW.PrintWords Go.Proofs.YtmhagppajcidcaaDoorW.PrintLast Go.Proofs.YtmhagppajcidcaaDoorW.PrintMore
attribute [local go_sem] max2_int min2_int max_two min_two max_three min_three max_four min_four   -- for this text's walks alone
set_option linter.unusedVariables false
set_option linter.unusedSimpArgs false

/-! ### spec_CellsText: function 26 -/
mutual
def spec_CellsText.l0 : Nat → List (S44) → List Int → ByteArray → Int → Int → Option (ByteArray × Bool)
  | 0, _, _, _, _, _ => none
  | k + 1, x6, x7, x8, x27, x28 => if x28 < x27 then (if x28 > 0 then (if x8.size + 1 ≤ 9223372036854775807 then (spec_CellsText.j1 k x6 x7 (x8 ++ (⟨#[59]⟩ : ByteArray)) x28 x27 x28) else (none)) else (spec_CellsText.j1 k x6 x7 x8 x28 x27 x28)) else (if x8.toList = ([] : List UInt8) then (some ((⟨#[45]⟩ : ByteArray), true)) else (some (x8, true)))
def spec_CellsText.j1 : Nat → List (S44) → List Int → ByteArray → Int → Int → Int → Option (ByteArray × Bool)
  | 0, _, _, _, _, _, _ => none
  | k + 1, x6, x7, x8, x9, x27, x28 => (spec_l7Alive.f k x6 x9).bind fun t439 => ((spec_l8Count.f k x7).bind fun t442 => (spec_CellsText.l1 k x6 x7 x8 t439 x27 x28 t442 0))
def spec_CellsText.l1 : Nat → List (S44) → List Int → ByteArray → List Int → Int → Int → Int → Int → Option (ByteArray × Bool)
  | 0, _, _, _, _, _, _, _, _ => none
  | k + 1, x6, x7, x8, x10, x27, x28, x39, x40 => if x40 < x39 then (spec_CellsText.l2 k x6 x7 x8 x10 x40 (⟨#[46]⟩ : ByteArray) x27 x28 x39 x40 x10 (x10.length : Int) 0) else (spec_CellsText.l0 k x6 x7 x8 x27 (wrap64 (x28 + 1)))
def spec_CellsText.l2 : Nat → List (S44) → List Int → ByteArray → List Int → Int → ByteArray → Int → Int → Int → Int → List Int → Int → Int → Option (ByteArray × Bool)
  | 0, _, _, _, _, _, _, _, _, _, _, _, _, _ => none
  | k + 1, x6, x7, x8, x10, x11, x12, x27, x28, x39, x40, x43, x44, x45 => if x45 < x44 then (if 0 ≤ x45 then (if x45 < (x43.length : Int) then (if 0 ≤ (wrap64 ((rd x43 x45) - 1)) then (if (wrap64 ((rd x43 x45) - 1)) < (x7.length : Int) then (if (rd x7 (wrap64 ((rd x43 x45) - 1))) = x11 then ((spec_l13Dec.f k (rd x43 x45)).bind fun t445 => (spec_CellsText.l2 k x6 x7 x8 x10 x11 t445 x27 x28 x39 x40 x43 x44 (wrap64 (x45 + 1)))) else (spec_CellsText.l2 k x6 x7 x8 x10 x11 x12 x27 x28 x39 x40 x43 x44 (wrap64 (x45 + 1)))) else (none)) else (none)) else (none)) else (none)) else (if x11 > 0 then (if x8.size + 1 ≤ 9223372036854775807 then (if (x8 ++ (⟨#[32]⟩ : ByteArray)).size + x12.size ≤ 9223372036854775807 then (spec_CellsText.l1 k x6 x7 ((x8 ++ (⟨#[32]⟩ : ByteArray)) ++ x12) x10 x27 x28 x39 (wrap64 (x40 + 1))) else (none)) else (none)) else (if x8.size + x12.size ≤ 9223372036854775807 then (spec_CellsText.l1 k x6 x7 (x8 ++ x12) x10 x27 x28 x39 (wrap64 (x40 + 1))) else (none)))
end
def spec_CellsText.f (k : Nat) (a0 : ByteArray) : Option (ByteArray × Bool) := (spec_l7Read.f k a0).bind fun bt429 => (if bt429.2 = true then ((spec_l7Lives.f k bt429.1).bind fun t433 => ((spec_l8Cells.f k bt429.1).bind fun t436 => (spec_CellsText.l0 k t433 t436 (⟨#[]⟩ : ByteArray) (bt429.1.length : Int) 0))) else (some ((⟨#[]⟩ : ByteArray), false)))
theorem spec_CellsText.mono_l : ∀ k, (∀ y0 y1 y2 y3 y4, LeO (spec_CellsText.l0 k y0 y1 y2 y3 y4) (spec_CellsText.l0 (k + 1) y0 y1 y2 y3 y4)) ∧ (∀ y0 y1 y2 y3 y4 y5, LeO (spec_CellsText.j1 k y0 y1 y2 y3 y4 y5) (spec_CellsText.j1 (k + 1) y0 y1 y2 y3 y4 y5)) ∧ (∀ y0 y1 y2 y3 y4 y5 y6 y7, LeO (spec_CellsText.l1 k y0 y1 y2 y3 y4 y5 y6 y7) (spec_CellsText.l1 (k + 1) y0 y1 y2 y3 y4 y5 y6 y7)) ∧ (∀ y0 y1 y2 y3 y4 y5 y6 y7 y8 y9 y10 y11 y12, LeO (spec_CellsText.l2 k y0 y1 y2 y3 y4 y5 y6 y7 y8 y9 y10 y11 y12) (spec_CellsText.l2 (k + 1) y0 y1 y2 y3 y4 y5 y6 y7 y8 y9 y10 y11 y12))
  | 0 => ⟨fun _ _ _ _ _ r h => by simp [spec_CellsText.l0] at h, fun _ _ _ _ _ _ r h => by simp [spec_CellsText.j1] at h, fun _ _ _ _ _ _ _ _ r h => by simp [spec_CellsText.l1] at h, fun _ _ _ _ _ _ _ _ _ _ _ _ _ r h => by simp [spec_CellsText.l2] at h⟩
  | k + 1 => by
    obtain ⟨ih0, ih1, ih2, ih3⟩ := spec_CellsText.mono_l k
    refine ⟨?_, ?_, ?_, ?_⟩
    · intro y0 y1 y2 y3 y4
      unfold spec_CellsText.l0
      repeat' first
      | (with_reducible exact ih0 _ _ _ _ _)
      | (with_reducible exact ih1 _ _ _ _ _ _)
      | (with_reducible exact ih2 _ _ _ _ _ _ _ _)
      | (with_reducible exact ih3 _ _ _ _ _ _ _ _ _ _ _ _ _)
      | (with_reducible exact spec_l13Dec.mono _ _)
      | (with_reducible exact spec_l7Alive.mono _ _ _)
      | (with_reducible exact spec_l7Lives.mono _ _)
      | (with_reducible exact spec_l7Read.mono _ _)
      | (with_reducible exact spec_l8Cells.mono _ _)
      | (with_reducible exact spec_l8Count.mono _ _)
      | (with_reducible exact LeO.refl _)
      | (with_reducible exact LeO.none _)
      | (with_reducible refine LeO.ite ?_ ?_)
      | (with_reducible refine LeO.bind ?_ (fun _ => ?_))
      | exact ih0 _ _ _ _ _
      | exact ih1 _ _ _ _ _ _
      | exact ih2 _ _ _ _ _ _ _ _
      | exact ih3 _ _ _ _ _ _ _ _ _ _ _ _ _
      | exact spec_l13Dec.mono _ _
      | exact spec_l7Alive.mono _ _ _
      | exact spec_l7Lives.mono _ _
      | exact spec_l7Read.mono _ _
      | exact spec_l8Cells.mono _ _
      | exact spec_l8Count.mono _ _
      | exact LeO.none _
      | refine LeO.ite ?_ ?_
      | refine LeO.bind ?_ (fun _ => ?_)
    · intro y0 y1 y2 y3 y4 y5
      unfold spec_CellsText.j1
      repeat' first
      | (with_reducible exact ih0 _ _ _ _ _)
      | (with_reducible exact ih1 _ _ _ _ _ _)
      | (with_reducible exact ih2 _ _ _ _ _ _ _ _)
      | (with_reducible exact ih3 _ _ _ _ _ _ _ _ _ _ _ _ _)
      | (with_reducible exact spec_l13Dec.mono _ _)
      | (with_reducible exact spec_l7Alive.mono _ _ _)
      | (with_reducible exact spec_l7Lives.mono _ _)
      | (with_reducible exact spec_l7Read.mono _ _)
      | (with_reducible exact spec_l8Cells.mono _ _)
      | (with_reducible exact spec_l8Count.mono _ _)
      | (with_reducible exact LeO.refl _)
      | (with_reducible exact LeO.none _)
      | (with_reducible refine LeO.ite ?_ ?_)
      | (with_reducible refine LeO.bind ?_ (fun _ => ?_))
      | exact ih0 _ _ _ _ _
      | exact ih1 _ _ _ _ _ _
      | exact ih2 _ _ _ _ _ _ _ _
      | exact ih3 _ _ _ _ _ _ _ _ _ _ _ _ _
      | exact spec_l13Dec.mono _ _
      | exact spec_l7Alive.mono _ _ _
      | exact spec_l7Lives.mono _ _
      | exact spec_l7Read.mono _ _
      | exact spec_l8Cells.mono _ _
      | exact spec_l8Count.mono _ _
      | exact LeO.none _
      | refine LeO.ite ?_ ?_
      | refine LeO.bind ?_ (fun _ => ?_)
    · intro y0 y1 y2 y3 y4 y5 y6 y7
      unfold spec_CellsText.l1
      repeat' first
      | (with_reducible exact ih0 _ _ _ _ _)
      | (with_reducible exact ih1 _ _ _ _ _ _)
      | (with_reducible exact ih2 _ _ _ _ _ _ _ _)
      | (with_reducible exact ih3 _ _ _ _ _ _ _ _ _ _ _ _ _)
      | (with_reducible exact spec_l13Dec.mono _ _)
      | (with_reducible exact spec_l7Alive.mono _ _ _)
      | (with_reducible exact spec_l7Lives.mono _ _)
      | (with_reducible exact spec_l7Read.mono _ _)
      | (with_reducible exact spec_l8Cells.mono _ _)
      | (with_reducible exact spec_l8Count.mono _ _)
      | (with_reducible exact LeO.refl _)
      | (with_reducible exact LeO.none _)
      | (with_reducible refine LeO.ite ?_ ?_)
      | (with_reducible refine LeO.bind ?_ (fun _ => ?_))
      | exact ih0 _ _ _ _ _
      | exact ih1 _ _ _ _ _ _
      | exact ih2 _ _ _ _ _ _ _ _
      | exact ih3 _ _ _ _ _ _ _ _ _ _ _ _ _
      | exact spec_l13Dec.mono _ _
      | exact spec_l7Alive.mono _ _ _
      | exact spec_l7Lives.mono _ _
      | exact spec_l7Read.mono _ _
      | exact spec_l8Cells.mono _ _
      | exact spec_l8Count.mono _ _
      | exact LeO.none _
      | refine LeO.ite ?_ ?_
      | refine LeO.bind ?_ (fun _ => ?_)
    · intro y0 y1 y2 y3 y4 y5 y6 y7 y8 y9 y10 y11 y12
      unfold spec_CellsText.l2
      repeat' first
      | (with_reducible exact ih0 _ _ _ _ _)
      | (with_reducible exact ih1 _ _ _ _ _ _)
      | (with_reducible exact ih2 _ _ _ _ _ _ _ _)
      | (with_reducible exact ih3 _ _ _ _ _ _ _ _ _ _ _ _ _)
      | (with_reducible exact spec_l13Dec.mono _ _)
      | (with_reducible exact spec_l7Alive.mono _ _ _)
      | (with_reducible exact spec_l7Lives.mono _ _)
      | (with_reducible exact spec_l7Read.mono _ _)
      | (with_reducible exact spec_l8Cells.mono _ _)
      | (with_reducible exact spec_l8Count.mono _ _)
      | (with_reducible exact LeO.refl _)
      | (with_reducible exact LeO.none _)
      | (with_reducible refine LeO.ite ?_ ?_)
      | (with_reducible refine LeO.bind ?_ (fun _ => ?_))
      | exact ih0 _ _ _ _ _
      | exact ih1 _ _ _ _ _ _
      | exact ih2 _ _ _ _ _ _ _ _
      | exact ih3 _ _ _ _ _ _ _ _ _ _ _ _ _
      | exact spec_l13Dec.mono _ _
      | exact spec_l7Alive.mono _ _ _
      | exact spec_l7Lives.mono _ _
      | exact spec_l7Read.mono _ _
      | exact spec_l8Cells.mono _ _
      | exact spec_l8Count.mono _ _
      | exact LeO.none _
      | refine LeO.ite ?_ ?_
      | refine LeO.bind ?_ (fun _ => ?_)
theorem spec_CellsText.mono : ∀ a0 k, LeO (spec_CellsText.f k a0) (spec_CellsText.f (k + 1) a0) := by
  intro a0 k
  obtain ⟨ih0, ih1, ih2, ih3⟩ := spec_CellsText.mono_l k
  unfold spec_CellsText.f
  repeat' first
      | (with_reducible exact ih0 _ _ _ _ _)
      | (with_reducible exact ih1 _ _ _ _ _ _)
      | (with_reducible exact ih2 _ _ _ _ _ _ _ _)
      | (with_reducible exact ih3 _ _ _ _ _ _ _ _ _ _ _ _ _)
      | (with_reducible exact spec_l13Dec.mono _ _)
      | (with_reducible exact spec_l7Alive.mono _ _ _)
      | (with_reducible exact spec_l7Lives.mono _ _)
      | (with_reducible exact spec_l7Read.mono _ _)
      | (with_reducible exact spec_l8Cells.mono _ _)
      | (with_reducible exact spec_l8Count.mono _ _)
      | (with_reducible exact LeO.refl _)
      | (with_reducible exact LeO.none _)
      | (with_reducible refine LeO.ite ?_ ?_)
      | (with_reducible refine LeO.bind ?_ (fun _ => ?_))
      | exact ih0 _ _ _ _ _
      | exact ih1 _ _ _ _ _ _
      | exact ih2 _ _ _ _ _ _ _ _
      | exact ih3 _ _ _ _ _ _ _ _ _ _ _ _ _
      | exact spec_l13Dec.mono _ _
      | exact spec_l7Alive.mono _ _ _
      | exact spec_l7Lives.mono _ _
      | exact spec_l7Read.mono _ _
      | exact spec_l8Cells.mono _ _
      | exact spec_l8Count.mono _ _
      | exact LeO.none _
      | refine LeO.ite ?_ ?_
      | refine LeO.bind ?_ (fun _ => ?_)
set_option maxHeartbeats 8000000 in
set_option maxRecDepth 100000 in
theorem spec_CellsText.calls (k : Nat) (a0 : ByteArray) (r1 : ByteArray) (r2 : Bool) (w : World) (h : spec_CellsText.f k a0 = some (r1, r2)) :
    Calls Tryd.prog 26 #[.string a0] w fun e w' => e = .returned (.tuple #[.string r1, .bool r2]) ∧ Below w.heap.size w w' := by
  have HB := Aside0.mk (Below.refl w.heap.size w)
  have H : ((spec_l7Read.f k a0).bind fun bt429 => (if bt429.2 = true then ((spec_l7Lives.f k bt429.1).bind fun t433 => ((spec_l8Cells.f k bt429.1).bind fun t436 => (spec_CellsText.l0 k t433 t436 (⟨#[]⟩ : ByteArray) (bt429.1.length : Int) 0))) else (some ((⟨#[]⟩ : ByteArray), false)))) = some (r1, r2) := h
  clear h
  replace H := Option.bind_eq_some_iff.mp H
  obtain ⟨⟨t429, t430⟩, A20, H⟩ := H
  replace H : (if t430 = true then ((spec_l7Lives.f k t429).bind fun t433 => ((spec_l8Cells.f k t429).bind fun t436 => (spec_CellsText.l0 k t433 t436 (⟨#[]⟩ : ByteArray) (t429.length : Int) 0))) else (some ((⟨#[]⟩ : ByteArray), false))) = some (r1, r2) := H
  have A2 := Aside0.mk A20
  clear A20
  by_cases c3 : t430 = true
  · subst c3
    have H1 : ((spec_l7Lives.f k t429).bind fun t433 => ((spec_l8Cells.f k t429).bind fun t436 => (spec_CellsText.l0 k t433 t436 (⟨#[]⟩ : ByteArray) (t429.length : Int) 0))) = some (r1, r2) := by rw [if_pos rfl] at H; exact H
    clear H
    have H := H1
    clear H1
    replace H := Option.bind_eq_some_iff.mp H
    obtain ⟨t433, A40, H⟩ := H
    replace H : ((spec_l8Cells.f k t429).bind fun t436 => (spec_CellsText.l0 k t433 t436 (⟨#[]⟩ : ByteArray) (t429.length : Int) 0)) = some (r1, r2) := H
    have A4 := Aside0.mk A40
    clear A40
    replace H := Option.bind_eq_some_iff.mp H
    obtain ⟨t436, A50, H⟩ := H
    replace H : (spec_CellsText.l0 k t433 t436 (⟨#[]⟩ : ByteArray) (t429.length : Int) 0) = some (r1, r2) := H
    have A5 := Aside0.mk A50
    clear A50
    have H' := Aside0.mk H
    clear H
    go_enter Tryd.func26, Tryd.ntmps26
    go_wp2_with (first | ((with_reducible refine gate_callee (f := 28) rfl ?_); refine goesL_ (some 17) rfl rfl Tryd.func28 (by kernel_rfl) rfl #[.string a0] rfl (by (try simp only [List.map_toArray, List.map_cons, List.map_nil]); first | done | rfl | (simp only [List.length_drop, List.length_take]; rfl)) ?_; (with_reducible refine (spec_l7Read.calls k a0 t429 true _ A2.out).mono ?_); rintro e w6 ⟨v431, rfl, ho0, hb⟩; refine ⟨_, rfl, ?_⟩; have n0_ := Aside0.mk (Kd.R_lower ho0 (below_size (by repeat (first | (with_reducible first | exact HB.out | apply below_alloc | apply pw_below_drewN | apply below_drew1) | exact HB.out)))); have n1_ := Aside0.mk (below_step (by repeat (first | (with_reducible first | exact HB.out | apply below_alloc | apply pw_below_drewN | apply below_drew1) | exact HB.out)) hb); clear HB; have HO432 := n0_; have HB := n1_; clear n0_ n1_; (try clear hb); (try clear hb2); (try clear hk); (try clear hi); (try clear ho0); obtain ⟨Ao7, co7, eo7⟩ := Kd.R_slice HO432.out; subst eo7) | ((with_reducible refine gate_callee (f := 35) rfl ?_); refine goesL_ (some 23) rfl rfl Tryd.func35 (by kernel_rfl) rfl #[.slice Ao7 t429.length co7] rfl (by (try simp only [List.map_toArray, List.map_cons, List.map_nil]); first | done | rfl | (simp only [List.length_drop, List.length_take]; rfl)) ?_; (with_reducible refine (spec_l7Lives.calls k _ _ t429 t433 _ ?side1 ?side2 A4.out).mono ?_); (case side1 => repeat (first | exact (Kd.R_reads' HO432.out).2.2 | (with_reducible refine Kd.C_alloc ?_ _) | (with_reducible refine Kd.C_drewN ?_ _) | (with_reducible refine Kd.C_drew ?_))); (case side2 => exact (Kd.R_reads' HO432.out).2.1); rintro e w8 ⟨v434, rfl, ho0, hb⟩; refine ⟨_, rfl, ?_⟩; have n0_ := Aside0.mk (Kd.R_below (by (with_reducible repeat (first | apply Kd.R_alloc | apply Kd.R_drewN | apply Kd.R_drew)); exact HO432.out) hb); have n1_ := Aside0.mk (Kd.R_lower ho0 (below_size (by repeat (first | (with_reducible first | exact HB.out | apply below_alloc | apply pw_below_drewN | apply below_drew1) | exact HB.out)))); have n2_ := Aside0.mk (below_step (by repeat (first | (with_reducible first | exact HB.out | apply below_alloc | apply pw_below_drewN | apply below_drew1) | exact HB.out)) hb); clear HO432; clear HB; have HO432 := n0_; have HO435 := n1_; have HB := n2_; clear n0_ n1_ n2_; (try clear hb); (try clear hb2); (try clear hk); (try clear hi); (try clear ho0)) | ((with_reducible refine gate_callee (f := 33) rfl ?_); refine goesL_ (some 25) rfl rfl Tryd.func33 (by kernel_rfl) rfl #[.slice Ao7 t429.length co7] rfl (by (try simp only [List.map_toArray, List.map_cons, List.map_nil]); first | done | rfl | (simp only [List.length_drop, List.length_take]; rfl)) ?_; (with_reducible refine (spec_l8Cells.calls k _ _ t429 t436 _ ?side1 ?side2 A5.out).mono ?_); (case side1 => repeat (first | exact (Kd.R_reads' HO432.out).2.2 | (with_reducible refine Kd.C_alloc ?_ _) | (with_reducible refine Kd.C_drewN ?_ _) | (with_reducible refine Kd.C_drew ?_))); (case side2 => exact (Kd.R_reads' HO432.out).2.1); rintro e w9 ⟨v437, rfl, ho0, hb⟩; refine ⟨_, rfl, ?_⟩; have n0_ := Aside0.mk (Kd.R_below (by (with_reducible repeat (first | apply Kd.R_alloc | apply Kd.R_drewN | apply Kd.R_drew)); exact HO432.out) hb); have n1_ := Aside0.mk (Kd.R_below (by (with_reducible repeat (first | apply Kd.R_alloc | apply Kd.R_drewN | apply Kd.R_drew)); exact HO435.out) hb); have n2_ := Aside0.mk (Kd.R_lower ho0 (below_size (by repeat (first | (with_reducible first | exact HB.out | apply below_alloc | apply pw_below_drewN | apply below_drew1) | exact HB.out)))); have n3_ := Aside0.mk (below_step (by repeat (first | (with_reducible first | exact HB.out | apply below_alloc | apply pw_below_drewN | apply below_drew1) | exact HB.out)) hb); clear HO432; clear HO435; clear HB; have HO432 := n0_; have HO435 := n1_; have HO438 := n2_; have HB := n3_; clear n0_ n1_ n2_ n3_; (try clear hb); (try clear hb2); (try clear hk); (try clear hi); (try clear ho0)))
    go_loopg [8, 28] k (fun kq v8 v28 w' => ∃ (x8_1 : ByteArray) (x28_1 : Int), v8 = .string x8_1 ∧ v28 = .int .i64 x28_1 ∧ Aside0 (spec_CellsText.l0 kq t433 t436 x8_1 (t429.length : Int) x28_1 = some (r1, r2)) ∧ Aside0 (kq ≤ k) ∧ Aside0 (Kd.R k44 44 w' w.heap.size (fun _ => True) v434 t433) ∧ Aside0 (Kd.R (Kd.int .i64) 3 w' w.heap.size (fun _ => True) v437 t436) ∧ Aside0 (Below w.heap.size w w'))
    case atStart => exact ⟨((⟨#[]⟩ : ByteArray)), (0), (by first | rfl | (simp; done) | (simp [*]; done)), (by first | rfl | (simp; done) | (simp [*]; done)), H', ⟨Nat.le_refl _⟩, ⟨by (with_reducible repeat (first | apply Kd.R_alloc | apply Kd.R_drewN | apply Kd.R_drew)); exact HO435.out⟩, ⟨by (with_reducible repeat (first | apply Kd.R_alloc | apply Kd.R_drewN | apply Kd.R_drew)); exact HO438.out⟩, ⟨by repeat (first | (with_reducible first | exact HB.out | apply below_alloc | apply pw_below_drewN | apply below_drew1) | exact HB.out)⟩⟩
    case round =>
      clear H'
      try clear c2
      try clear p2
      try clear c3
      obtain ⟨x8_1, x28_1, rfl, rfl, HA, HK1, HO_6, HO_7, HB⟩ := hrel
      cases gk with
      | zero => exact absurd HA.out (by simp [spec_CellsText.l0])
      | succ k1 =>
        have H := HA.out
        clear HA
        simp only [spec_CellsText.l0] at H
        by_cases c10 : x28_1 < (t429.length : Int)
        · rw [if_pos c10] at H
          have c10b0 : decide (x28_1 < (t429.length : Int)) = true := decide_eq_true c10
          clear c10
          have HC11 := Aside0.mk H
          clear H
          go_upto_if 32 with (fail)
          go_cut [8] (fun v8 wc => ∃ (kq : Nat) (x8_10 : ByteArray), v8 = .string x8_10 ∧ Aside0 (spec_CellsText.j1 kq t433 t436 x8_10 x28_1 (t429.length : Int) x28_1 = some (r1, r2)) ∧ Aside0 (kq ≤ k1) ∧ Aside0 (Kd.R k44 44 wc w.heap.size (fun _ => True) v434 t433) ∧ Aside0 (Kd.R (Kd.int .i64) 3 wc w.heap.size (fun _ => True) v437 t436) ∧ Aside0 (Below w.heap.size w wc))
          case first =>
            have H := HC11.out
            clear HC11
            by_cases c12 : x28_1 > 0
            · rw [if_pos c12] at H
              have c12b0 : decide (0 < x28_1) = true := decide_eq_true c12
              clear c12
              (first | rw [c12b0] | (simp only [i64_w, i32_w]; rw [c12b0]) | skip)
              by_cases c13 : x8_1.size + 1 ≤ 9223372036854775807
              · rw [if_pos c13] at H
                have c13b0 := eq_true c13
                have c13b1 : decide (x8_1.size + 1 ≤ 9223372036854775807) = true := decide_eq_true c13
                try have c13b2 : (9223372036854775807 < x8_1.size + 1) = False := eq_false (Nat.not_lt.2 c13)
                have H' := Aside0.mk H
                clear H
                go_wp2
                go_meet
                case rel => exact ⟨_, (x8_1 ++ (⟨#[59]⟩ : ByteArray)), (by first | rfl | (simp; done) | (simp [*]; done)), H', ⟨by have := HK1.out; first | omega | exact Nat.le_refl _⟩, ⟨by (with_reducible repeat (first | apply Kd.R_alloc | apply Kd.R_drewN | apply Kd.R_drew)); exact HO_6.out⟩, ⟨by (with_reducible repeat (first | apply Kd.R_alloc | apply Kd.R_drewN | apply Kd.R_drew)); exact HO_7.out⟩, ⟨by repeat (first | (with_reducible first | exact HB.out | apply below_alloc | apply pw_below_drewN | apply below_drew1) | exact HB.out)⟩⟩
              · rw [if_neg c13] at H
                exact absurd H (by simp)
            · rw [if_neg c12] at H
              have c12b0 : decide (0 < x28_1) = false := decide_eq_false c12
              clear c12
              (first | rw [c12b0] | (simp only [i64_w, i32_w]; rw [c12b0]) | skip)
              have H' := Aside0.mk H
              clear H
              go_wp2
              go_meet
              case rel => exact ⟨_, (x8_1), (by first | rfl | (simp; done) | (simp [*]; done)), H', ⟨by have := HK1.out; first | omega | exact Nat.le_refl _⟩, ⟨by (with_reducible repeat (first | apply Kd.R_alloc | apply Kd.R_drewN | apply Kd.R_drew)); exact HO_6.out⟩, ⟨by (with_reducible repeat (first | apply Kd.R_alloc | apply Kd.R_drewN | apply Kd.R_drew)); exact HO_7.out⟩, ⟨by repeat (first | (with_reducible first | exact HB.out | apply below_alloc | apply pw_below_drewN | apply below_drew1) | exact HB.out)⟩⟩
          case rest =>
            clear HC11
            try clear c1
            try clear c2
            try clear p2
            try clear c3
            try clear c10
            try clear c10b0
            try clear c12
            try clear c12b0
            try clear c13
            try clear c13b0
            try clear c13b1
            try clear c13b2
            try clear p2
            obtain ⟨kq, x8_10, rfl, HA, HJ10, HO_6, HO_7, HB⟩ := hcut
            cases kq with
            | zero => exact absurd HA.out (by simp [spec_CellsText.j1])
            | succ kj10 =>
              have H := HA.out
              clear HA
              simp only [spec_CellsText.j1] at H
              replace H := Option.bind_eq_some_iff.mp H
              obtain ⟨t439, A140, H⟩ := H
              replace H : ((spec_l8Count.f kj10 t436).bind fun t442 => (spec_CellsText.l1 kj10 t433 t436 x8_10 t439 (t429.length : Int) x28_1 t442 0)) = some (r1, r2) := H
              have A14 := Aside0.mk A140
              clear A140
              replace H := Option.bind_eq_some_iff.mp H
              obtain ⟨t442, A150, H⟩ := H
              replace H : (spec_CellsText.l1 kj10 t433 t436 x8_10 t439 (t429.length : Int) x28_1 t442 0) = some (r1, r2) := H
              have A15 := Aside0.mk A150
              clear A150
              have H' := Aside0.mk H
              clear H
              obtain ⟨Ao16, co16, eo16⟩ := Kd.R_slice HO_6.out
              subst eo16
              go_wp2_with (first | ((with_reducible refine gate_callee (f := 41) rfl ?_); refine goesL_ (some 37) rfl rfl Tryd.func41 (by kernel_rfl) rfl #[.slice Ao16 t433.length co16, .int .i64 x28_1] rfl (by (try simp only [List.map_toArray, List.map_cons, List.map_nil]); first | done | rfl | (simp only [List.length_drop, List.length_take]; rfl)) ?_; (with_reducible refine (spec_l7Alive.calls kj10 _ _ t433 x28_1 t439 _ ?side1 ?side2 A14.out).mono ?_); (case side1 => repeat (first | exact (Kd.R_reads' HO_6.out).2.2 | (with_reducible refine Kd.C_alloc ?_ _) | (with_reducible refine Kd.C_drewN ?_ _) | (with_reducible refine Kd.C_drew ?_))); (case side2 => exact (Kd.R_reads' HO_6.out).2.1); rintro e w17 ⟨v440, rfl, ho0, hb⟩; refine ⟨_, rfl, ?_⟩; have n0_ := Aside0.mk (Kd.R_below (by (with_reducible repeat (first | apply Kd.R_alloc | apply Kd.R_drewN | apply Kd.R_drew)); exact HO_6.out) hb); have n1_ := Aside0.mk (Kd.R_elder' (by (with_reducible repeat (first | apply Kd.R_alloc | apply Kd.R_drewN | apply Kd.R_drew)); exact HO_7.out) (Kd.R_base ho0) hb); have n2_ := Aside0.mk (Kd.R_lower (Kd.R_new' ho0 (Kd.R_lt (by (with_reducible repeat (first | apply Kd.R_alloc | apply Kd.R_drewN | apply Kd.R_drew)); exact HO_7.out))) (below_size (by repeat (first | (with_reducible first | exact HB.out | apply below_alloc | apply pw_below_drewN | apply below_drew1) | exact HB.out)))); have n3_ := Aside0.mk (below_step (by repeat (first | (with_reducible first | exact HB.out | apply below_alloc | apply pw_below_drewN | apply below_drew1) | exact HB.out)) hb); clear HO_6; clear HO_7; clear HB; have HO_6 := n0_; have HO_7 := n1_; have HO441 := n2_; have HB := n3_; clear n0_ n1_ n2_ n3_; (try clear hb); (try clear hb2); (try clear hk); (try clear hi); (try clear ho0); obtain ⟨Ao18, co18, eo18⟩ := Kd.R_slice HO_7.out; subst eo18) | ((with_reducible refine gate_callee (f := 29) rfl ?_); refine goesL_ (some 39) rfl rfl Tryd.func29 (by kernel_rfl) rfl #[.slice Ao18 t436.length co18] rfl (by (try simp only [List.map_toArray, List.map_cons, List.map_nil]); first | done | rfl | (simp only [List.length_drop, List.length_take]; rfl)) ?_; (with_reducible refine (spec_l8Count.calls kj10 _ _ t436 t442 _ ?side1 ?side2 A15.out).mono ?_); (case side1 => repeat (first | exact (Kd.R_reads' HO_7.out).2.2 | (with_reducible refine Kd.C_alloc ?_ _) | (with_reducible refine Kd.C_drewN ?_ _) | (with_reducible refine Kd.C_drew ?_))); (case side2 => exact (Kd.R_reads' HO_7.out).2.1); rintro e w19 ⟨rfl, hb⟩; refine ⟨_, rfl, ?_⟩; have n0_ := Aside0.mk (Kd.R_below (by (with_reducible repeat (first | apply Kd.R_alloc | apply Kd.R_drewN | apply Kd.R_drew)); exact HO_6.out) hb); have n1_ := Aside0.mk (Kd.R_below (by (with_reducible repeat (first | apply Kd.R_alloc | apply Kd.R_drewN | apply Kd.R_drew)); exact HO_7.out) hb); have n2_ := Aside0.mk (Kd.R_below (by (with_reducible repeat (first | apply Kd.R_alloc | apply Kd.R_drewN | apply Kd.R_drew)); exact HO441.out) hb); have n3_ := Aside0.mk (below_step (by repeat (first | (with_reducible first | exact HB.out | apply below_alloc | apply pw_below_drewN | apply below_drew1) | exact HB.out)) hb); clear HO_6; clear HO_7; clear HO441; clear HB; have HO_6 := n0_; have HO_7 := n1_; have HO441 := n2_; have HB := n3_; clear n0_ n1_ n2_ n3_; (try clear hb); (try clear hb2); (try clear hk); (try clear hi)))
              go_loopg [8, 40] kj10 (fun kq v8 v40 w' => ∃ (x8_3 : ByteArray) (x40_3 : Int), v8 = .string x8_3 ∧ v40 = .int .i64 x40_3 ∧ Aside0 (spec_CellsText.l1 kq t433 t436 x8_3 t439 (t429.length : Int) x28_1 t442 x40_3 = some (r1, r2)) ∧ Aside0 (kq ≤ kj10) ∧ Aside0 (Kd.R k44 44 w' w.heap.size (fun _ => True) (.slice Ao16 t433.length co16) t433) ∧ Aside0 (Kd.R (Kd.int .i64) 3 w' w.heap.size (fun k_ => some k_ ≠ (v440 : Value).ownBlock) (.slice Ao18 t436.length co18) t436) ∧ Aside0 (Kd.R (Kd.int .i64) 3 w' w.heap.size (fun k_ => some k_ ≠ ((.slice Ao18 t436.length co18) : Value).ownBlock) v440 t439) ∧ Aside0 (Below w.heap.size w w'))
              case atStart => exact ⟨(x8_10), (0), (by first | rfl | (simp; done) | (simp [*]; done)), (by first | rfl | (simp; done) | (simp [*]; done)), H', ⟨Nat.le_refl _⟩, ⟨by (with_reducible repeat (first | apply Kd.R_alloc | apply Kd.R_drewN | apply Kd.R_drew)); exact HO_6.out⟩, ⟨by (with_reducible repeat (first | apply Kd.R_alloc | apply Kd.R_drewN | apply Kd.R_drew)); exact Kd.R_mono HO_7.out (fun _ hk => hk.2)⟩, ⟨by (with_reducible repeat (first | apply Kd.R_alloc | apply Kd.R_drewN | apply Kd.R_drew)); exact Kd.R_mono HO441.out (fun _ hk => hk.2)⟩, ⟨by repeat (first | (with_reducible first | exact HB.out | apply below_alloc | apply pw_below_drewN | apply below_drew1) | exact HB.out)⟩⟩
              case round =>
                clear H'
                try clear c1
                try clear c2
                try clear p2
                try clear c3
                try clear c4
                try clear c10
                try clear c10b0
                try clear c12
                try clear c12b0
                try clear c13
                try clear c13b0
                try clear c13b1
                try clear c13b2
                try clear p2
                obtain ⟨x8_3, x40_3, rfl, rfl, HA, HK3, HO_6, HO_7, HO_10, HB⟩ := hrel
                cases gk with
                | zero => exact absurd HA.out (by simp [spec_CellsText.l1])
                | succ k3 =>
                  have H := HA.out
                  clear HA
                  simp only [spec_CellsText.l1] at H
                  by_cases c20 : x40_3 < t442
                  · rw [if_pos c20] at H
                    have c20b0 : decide (x40_3 < t442) = true := decide_eq_true c20
                    clear c20
                    have H' := Aside0.mk H
                    clear H
                    obtain ⟨Ao21, co21, eo21⟩ := Kd.R_slice HO_10.out
                    subst eo21
                    go_wp2
                    go_loopg [12, 45] k3 (fun kq v12 v45 w' => ∃ (x12_4 : ByteArray) (x45_4 : Int), v12 = .string x12_4 ∧ v45 = .int .i64 x45_4 ∧ Aside0 (spec_CellsText.l2 kq t433 t436 x8_3 t439 x40_3 x12_4 (t429.length : Int) x28_1 t442 x40_3 t439 (t439.length : Int) x45_4 = some (r1, r2)) ∧ Aside0 (kq ≤ k3) ∧ Aside0 (Kd.R k44 44 w' w.heap.size (fun _ => True) (.slice Ao16 t433.length co16) t433) ∧ Aside0 (Kd.R (Kd.int .i64) 3 w' w.heap.size (fun k_ => some k_ ≠ ((.slice Ao21 t439.length co21) : Value).ownBlock ∧ some k_ ≠ ((.slice Ao21 t439.length co21) : Value).ownBlock) (.slice Ao18 t436.length co18) t436) ∧ Aside0 (Kd.R (Kd.int .i64) 3 w' w.heap.size (fun k_ => some k_ ≠ ((.slice Ao18 t436.length co18) : Value).ownBlock) (.slice Ao21 t439.length co21) t439) ∧ Aside0 (Kd.R (Kd.int .i64) 3 w' w.heap.size (fun k_ => some k_ ≠ ((.slice Ao18 t436.length co18) : Value).ownBlock) (.slice Ao21 t439.length co21) t439) ∧ Aside0 (Below w.heap.size w w'))
                    case atStart => exact ⟨((⟨#[46]⟩ : ByteArray)), (0), (by first | rfl | (simp; done) | (simp [*]; done)), (by first | rfl | (simp; done) | (simp [*]; done)), H', ⟨Nat.le_refl _⟩, ⟨by (with_reducible repeat (first | apply Kd.R_alloc | apply Kd.R_drewN | apply Kd.R_drew)); exact HO_6.out⟩, ⟨by (with_reducible repeat (first | apply Kd.R_alloc | apply Kd.R_drewN | apply Kd.R_drew)); exact Kd.R_mono HO_7.out (fun _ hk => ⟨hk, hk⟩)⟩, ⟨by (with_reducible repeat (first | apply Kd.R_alloc | apply Kd.R_drewN | apply Kd.R_drew)); exact HO_10.out⟩, ⟨by (with_reducible repeat (first | apply Kd.R_alloc | apply Kd.R_drewN | apply Kd.R_drew)); exact HO_10.out⟩, ⟨by repeat (first | (with_reducible first | exact HB.out | apply below_alloc | apply pw_below_drewN | apply below_drew1) | exact HB.out)⟩⟩
                    case round =>
                      clear H'
                      try clear c1
                      try clear c2
                      try clear p2
                      try clear c3
                      try clear c4
                      try clear c10
                      try clear c10b0
                      try clear c12
                      try clear c12b0
                      try clear c13
                      try clear c13b0
                      try clear c13b1
                      try clear c13b2
                      try clear c20
                      try clear c20b0
                      try clear p2
                      obtain ⟨x12_4, x45_4, rfl, rfl, HA, HK4, HO_6, HO_7, HO_10, HO_43, HB⟩ := hrel
                      cases gk with
                      | zero => exact absurd HA.out (by simp [spec_CellsText.l2])
                      | succ k4 =>
                        have H := HA.out
                        clear HA
                        simp only [spec_CellsText.l2] at H
                        by_cases c22 : x45_4 < (t439.length : Int)
                        · rw [if_pos c22] at H
                          have c22b0 : decide (x45_4 < (t439.length : Int)) = true := decide_eq_true c22
                          clear c22
                          by_cases c23 : 0 ≤ x45_4
                          · rw [if_pos c23] at H
                            have c23b0 : decide (0 ≤ x45_4) = true := decide_eq_true c23
                            clear c23
                            by_cases c24 : x45_4 < (t439.length : Int)
                            · rw [if_pos c24] at H
                              have c24b0 : decide (x45_4 < (t439.length : Int)) = true := decide_eq_true c24
                              clear c24
                              obtain ⟨ji25, hji25⟩ : ∃ j_ : Int, (wrap64 ((rd t439 x45_4) - 1)) = j_ := ⟨_, rfl⟩
                              replace H : (if 0 ≤ (ji25) then (if (ji25) < (t436.length : Int) then (if (rd t436 (ji25)) = x40_3 then ((spec_l13Dec.f k4 (rd t439 x45_4)).bind fun t445 => (spec_CellsText.l2 k4 t433 t436 x8_3 t439 x40_3 t445 (t429.length : Int) x28_1 t442 x40_3 t439 (t439.length : Int) (wrap64 (x45_4 + 1)))) else (spec_CellsText.l2 k4 t433 t436 x8_3 t439 x40_3 x12_4 (t429.length : Int) x28_1 t442 x40_3 t439 (t439.length : Int) (wrap64 (x45_4 + 1)))) else (none)) else (none)) = some (r1, r2) := by first | (rw [hji25] at H; exact H) | (simp only [hji25] at H ⊢; exact H)
                              have hji25w : (IntKind.i64.wrap ((rd t439 x45_4) - 1)) = ji25 := (i64_w _).trans hji25
                              by_cases c26 : 0 ≤ (ji25)
                              · rw [if_pos c26] at H
                                have c26b0 : decide (0 ≤ (ji25)) = true := decide_eq_true c26
                                clear c26
                                by_cases c27 : (ji25) < (t436.length : Int)
                                · rw [if_pos c27] at H
                                  have c27b0 : decide ((ji25) < (t436.length : Int)) = true := decide_eq_true c27
                                  clear c27
                                  by_cases c28 : (rd t436 (ji25)) = x40_3
                                  · rw [if_pos c28] at H
                                    have c28b0 : ((rd t436 (ji25)) == x40_3) = true := beq_iff_eq.mpr c28
                                    have c28b1 : ((rd t436 (ji25)) != x40_3) = false := bne_eq_false_iff_eq.mpr c28
                                    clear c28
                                    replace H := Option.bind_eq_some_iff.mp H
                                    obtain ⟨t445, A290, H⟩ := H
                                    replace H : (spec_CellsText.l2 k4 t433 t436 x8_3 t439 x40_3 t445 (t429.length : Int) x28_1 t442 x40_3 t439 (t439.length : Int) (wrap64 (x45_4 + 1))) = some (r1, r2) := H
                                    have A29 := Aside0.mk A290
                                    clear A290
                                    have H' := Aside0.mk H
                                    clear H
                                    have p443 : 0 ≤ (x45_4 : Int) := of_decide_eq_true (by first | (with_reducible assumption) | assumption)
                                    have q443 : x45_4 < (t439.length : Int) := of_decide_eq_true (by first | (with_reducible assumption) | assumption)
                                    obtain ⟨ad443, e443, hx443_0⟩ := Kd.at_int (Kd.R_reads' HO_43.out).2.2 x45_4 p443 q443
                                    cases e443
                                    replace p443 := eq_true p443
                                    replace q443 := eq_true q443
                                    have p444 : 0 ≤ ((ji25) : Int) := of_decide_eq_true (by first | (with_reducible assumption) | assumption)
                                    have q444 : (ji25) < (t436.length : Int) := of_decide_eq_true (by first | (with_reducible assumption) | assumption)
                                    obtain ⟨ad444, e444, hx444_0⟩ := Kd.at_int (Kd.R_reads' HO_7.out).2.2 (ji25) p444 q444
                                    cases e444
                                    replace p444 := eq_true p444
                                    replace q444 := eq_true q444
                                    go_wp2_with (first | ((with_reducible refine gate_callee (f := 42) rfl ?_); refine goesL_ (some 57) rfl rfl Tryd.func42 (by kernel_rfl) rfl #[.int .i64 (rd t439 x45_4)] rfl (by (try simp only [List.map_toArray, List.map_cons, List.map_nil]); first | done | rfl | (simp only [List.length_drop, List.length_take]; rfl)) ?_; (with_reducible refine (spec_l13Dec.calls k4 (rd t439 x45_4) t445 _ A29.out).mono ?_); rintro e w30 ⟨rfl, hb⟩; refine ⟨_, rfl, ?_⟩; have n0_ := Aside0.mk (Kd.R_below (by (with_reducible repeat (first | apply Kd.R_alloc | apply Kd.R_drewN | apply Kd.R_drew)); exact HO_6.out) hb); have n1_ := Aside0.mk (Kd.R_below (by (with_reducible repeat (first | apply Kd.R_alloc | apply Kd.R_drewN | apply Kd.R_drew)); exact HO_7.out) hb); have n2_ := Aside0.mk (Kd.R_below (by (with_reducible repeat (first | apply Kd.R_alloc | apply Kd.R_drewN | apply Kd.R_drew)); exact HO_10.out) hb); have n3_ := Aside0.mk (Kd.R_below (by (with_reducible repeat (first | apply Kd.R_alloc | apply Kd.R_drewN | apply Kd.R_drew)); exact HO_43.out) hb); have n4_ := Aside0.mk (below_step (by repeat (first | (with_reducible first | exact HB.out | apply below_alloc | apply pw_below_drewN | apply below_drew1) | exact HB.out)) hb); clear HO_6; clear HO_7; clear HO_10; clear HO_43; clear HB; have HO_6 := n0_; have HO_7 := n1_; have HO_10 := n2_; have HO_43 := n3_; have HB := n4_; clear n0_ n1_ n2_ n3_ n4_; (try clear hb); (try clear hb2); (try clear hk); (try clear hi)))
                                    go_roundg k4
                                    case measure => have := HK1.out; have := HJ10.out; have := HK3.out; have := HK4.out; omega
                                    case rel => exact ⟨(t445), (wrap64 (x45_4 + 1)), (by first | rfl | (simp; done) | (simp [*]; done)), (by first | rfl | (simp; done) | (simp [*]; done)), H', ⟨by have := HK1.out; have := HJ10.out; have := HK3.out; have := HK4.out; omega⟩, ⟨by (with_reducible repeat (first | apply Kd.R_alloc | apply Kd.R_drewN | apply Kd.R_drew)); exact HO_6.out⟩, ⟨by (with_reducible repeat (first | apply Kd.R_alloc | apply Kd.R_drewN | apply Kd.R_drew)); exact HO_7.out⟩, ⟨by (with_reducible repeat (first | apply Kd.R_alloc | apply Kd.R_drewN | apply Kd.R_drew)); exact HO_10.out⟩, ⟨by (with_reducible repeat (first | apply Kd.R_alloc | apply Kd.R_drewN | apply Kd.R_drew)); exact HO_43.out⟩, ⟨by repeat (first | (with_reducible first | exact HB.out | apply below_alloc | apply pw_below_drewN | apply below_drew1) | exact HB.out)⟩⟩
                                  · rw [if_neg c28] at H
                                    have c28b0 : ((rd t436 (ji25)) == x40_3) = false := beq_eq_false_iff_ne.mpr c28
                                    have c28b1 : ((rd t436 (ji25)) != x40_3) = true := bne_iff_ne.mpr c28
                                    have H' := Aside0.mk H
                                    clear H
                                    have p443 : 0 ≤ (x45_4 : Int) := of_decide_eq_true (by first | (with_reducible assumption) | assumption)
                                    have q443 : x45_4 < (t439.length : Int) := of_decide_eq_true (by first | (with_reducible assumption) | assumption)
                                    obtain ⟨ad443, e443, hx443_0⟩ := Kd.at_int (Kd.R_reads' HO_43.out).2.2 x45_4 p443 q443
                                    cases e443
                                    replace p443 := eq_true p443
                                    replace q443 := eq_true q443
                                    have p444 : 0 ≤ ((ji25) : Int) := of_decide_eq_true (by first | (with_reducible assumption) | assumption)
                                    have q444 : (ji25) < (t436.length : Int) := of_decide_eq_true (by first | (with_reducible assumption) | assumption)
                                    obtain ⟨ad444, e444, hx444_0⟩ := Kd.at_int (Kd.R_reads' HO_7.out).2.2 (ji25) p444 q444
                                    cases e444
                                    replace p444 := eq_true p444
                                    replace q444 := eq_true q444
                                    go_wp2
                                    go_roundg k4
                                    case measure => have := HK1.out; have := HJ10.out; have := HK3.out; have := HK4.out; omega
                                    case rel => exact ⟨(x12_4), (wrap64 (x45_4 + 1)), (by first | rfl | (simp; done) | (simp [*]; done)), (by first | rfl | (simp; done) | (simp [*]; done)), H', ⟨by have := HK1.out; have := HJ10.out; have := HK3.out; have := HK4.out; omega⟩, ⟨by (with_reducible repeat (first | apply Kd.R_alloc | apply Kd.R_drewN | apply Kd.R_drew)); exact HO_6.out⟩, ⟨by (with_reducible repeat (first | apply Kd.R_alloc | apply Kd.R_drewN | apply Kd.R_drew)); exact HO_7.out⟩, ⟨by (with_reducible repeat (first | apply Kd.R_alloc | apply Kd.R_drewN | apply Kd.R_drew)); exact HO_10.out⟩, ⟨by (with_reducible repeat (first | apply Kd.R_alloc | apply Kd.R_drewN | apply Kd.R_drew)); exact HO_43.out⟩, ⟨by repeat (first | (with_reducible first | exact HB.out | apply below_alloc | apply pw_below_drewN | apply below_drew1) | exact HB.out)⟩⟩
                                · rw [if_neg c27] at H
                                  exact absurd H (by simp)
                              · rw [if_neg c26] at H
                                exact absurd H (by simp)
                            · rw [if_neg c24] at H
                              exact absurd H (by simp)
                          · rw [if_neg c23] at H
                            exact absurd H (by simp)
                        · rw [if_neg c22] at H
                          have c22b0 : decide (x45_4 < (t439.length : Int)) = false := decide_eq_false c22
                          clear c22
                          by_cases c31 : x40_3 > 0
                          · rw [if_pos c31] at H
                            have c31b0 : decide (0 < x40_3) = true := decide_eq_true c31
                            clear c31
                            by_cases c32 : x8_3.size + 1 ≤ 9223372036854775807
                            · rw [if_pos c32] at H
                              have c32b0 := eq_true c32
                              have c32b1 : decide (x8_3.size + 1 ≤ 9223372036854775807) = true := decide_eq_true c32
                              try have c32b2 : (9223372036854775807 < x8_3.size + 1) = False := eq_false (Nat.not_lt.2 c32)
                              by_cases c33 : (x8_3 ++ (⟨#[32]⟩ : ByteArray)).size + x12_4.size ≤ 9223372036854775807
                              · rw [if_pos c33] at H
                                have c33b0 := eq_true c33
                                have c33b1 : decide ((x8_3 ++ (⟨#[32]⟩ : ByteArray)).size + x12_4.size ≤ 9223372036854775807) = true := decide_eq_true c33
                                try have c33b2 : (9223372036854775807 < (x8_3 ++ (⟨#[32]⟩ : ByteArray)).size + x12_4.size) = False := eq_false (Nat.not_lt.2 c33)
                                have c33z : x8_3.size + 1 + x12_4.size ≤ 9223372036854775807 := by have h := c33; simp only [ByteArray.size_append] at h; exact h
                                have c33b4 : decide (x8_3.size + 1 + x12_4.size ≤ 9223372036854775807) = true := decide_eq_true c33z
                                have c33b5 : (9223372036854775807 < x8_3.size + 1 + x12_4.size) = False := eq_false (Nat.not_lt.2 c33z)
                                replace c33z := eq_true c33z
                                have H' := Aside0.mk H
                                clear H
                                go_wp2
                                go_roundg k4
                                case measure => have := HK1.out; have := HJ10.out; have := HK3.out; have := HK4.out; omega
                                case rel => exact ⟨((x8_3 ++ (⟨#[32]⟩ : ByteArray)) ++ x12_4), (wrap64 (x40_3 + 1)), (by first | rfl | (simp; done) | (simp [*]; done)), (by first | rfl | (simp; done) | (simp [*]; done)), H', ⟨by have := HK1.out; have := HJ10.out; have := HK3.out; have := HK4.out; omega⟩, ⟨by (with_reducible repeat (first | apply Kd.R_alloc | apply Kd.R_drewN | apply Kd.R_drew)); exact HO_6.out⟩, ⟨by (with_reducible repeat (first | apply Kd.R_alloc | apply Kd.R_drewN | apply Kd.R_drew)); exact Kd.R_mono HO_7.out (fun _ hk => hk.1)⟩, ⟨by (with_reducible repeat (first | apply Kd.R_alloc | apply Kd.R_drewN | apply Kd.R_drew)); exact HO_10.out⟩, ⟨by repeat (first | (with_reducible first | exact HB.out | apply below_alloc | apply pw_below_drewN | apply below_drew1) | exact HB.out)⟩⟩
                              · rw [if_neg c33] at H
                                exact absurd H (by simp)
                            · rw [if_neg c32] at H
                              exact absurd H (by simp)
                          · rw [if_neg c31] at H
                            have c31b0 : decide (0 < x40_3) = false := decide_eq_false c31
                            clear c31
                            by_cases c34 : x8_3.size + x12_4.size ≤ 9223372036854775807
                            · rw [if_pos c34] at H
                              have c34b0 := eq_true c34
                              have c34b1 : decide (x8_3.size + x12_4.size ≤ 9223372036854775807) = true := decide_eq_true c34
                              try have c34b2 : (9223372036854775807 < x8_3.size + x12_4.size) = False := eq_false (Nat.not_lt.2 c34)
                              have H' := Aside0.mk H
                              clear H
                              go_wp2
                              go_roundg k4
                              case measure => have := HK1.out; have := HJ10.out; have := HK3.out; have := HK4.out; omega
                              case rel => exact ⟨(x8_3 ++ x12_4), (wrap64 (x40_3 + 1)), (by first | rfl | (simp; done) | (simp [*]; done)), (by first | rfl | (simp; done) | (simp [*]; done)), H', ⟨by have := HK1.out; have := HJ10.out; have := HK3.out; have := HK4.out; omega⟩, ⟨by (with_reducible repeat (first | apply Kd.R_alloc | apply Kd.R_drewN | apply Kd.R_drew)); exact HO_6.out⟩, ⟨by (with_reducible repeat (first | apply Kd.R_alloc | apply Kd.R_drewN | apply Kd.R_drew)); exact Kd.R_mono HO_7.out (fun _ hk => hk.1)⟩, ⟨by (with_reducible repeat (first | apply Kd.R_alloc | apply Kd.R_drewN | apply Kd.R_drew)); exact HO_10.out⟩, ⟨by repeat (first | (with_reducible first | exact HB.out | apply below_alloc | apply pw_below_drewN | apply below_drew1) | exact HB.out)⟩⟩
                            · rw [if_neg c34] at H
                              exact absurd H (by simp)
                  · rw [if_neg c20] at H
                    have c20b0 : decide (x40_3 < t442) = false := decide_eq_false c20
                    clear c20
                    have H' := Aside0.mk H
                    clear H
                    go_wp2
                    go_roundg k3
                    case measure => have := HK1.out; have := HJ10.out; have := HK3.out; omega
                    case rel => exact ⟨(x8_3), (wrap64 (x28_1 + 1)), (by first | rfl | (simp; done) | (simp [*]; done)), (by first | rfl | (simp; done) | (simp [*]; done)), H', ⟨by have := HK1.out; have := HJ10.out; have := HK3.out; omega⟩, ⟨by (with_reducible repeat (first | apply Kd.R_alloc | apply Kd.R_drewN | apply Kd.R_drew)); exact HO_6.out⟩, ⟨by (with_reducible repeat (first | apply Kd.R_alloc | apply Kd.R_drewN | apply Kd.R_drew)); exact Kd.R_mono HO_7.out (fun _ hk => trivial)⟩, ⟨by repeat (first | (with_reducible first | exact HB.out | apply below_alloc | apply pw_below_drewN | apply below_drew1) | exact HB.out)⟩⟩
        · rw [if_neg c10] at H
          have c10b0 : decide (x28_1 < (t429.length : Int)) = false := decide_eq_false c10
          clear c10
          by_cases c35 : x8_1.toList = ([] : List UInt8)
          · rw [if_pos c35] at H
            have c35b0 : (x8_1.toList == ([] : List UInt8)) = true := beq_iff_eq.mpr c35
            have c35b1 : (x8_1.toList != ([] : List UInt8)) = false := bne_eq_false_iff_eq.mpr c35
            clear c35
            simp only [Option.some.injEq, Prod.mk.injEq] at H
            obtain ⟨rfl, rfl⟩ := H
            go_wp2
            go_ret2
            exact ⟨by first | rfl | (simp [errW_none, errW_some] <;> rfl) | (simp [*, errW_none, errW_some] <;> rfl), by repeat (first | (with_reducible first | exact HB.out | apply below_alloc | apply pw_below_drewN | apply below_drew1) | exact HB.out)⟩
          · rw [if_neg c35] at H
            have c35b0 : (x8_1.toList == ([] : List UInt8)) = false := beq_eq_false_iff_ne.mpr c35
            have c35b1 : (x8_1.toList != ([] : List UInt8)) = true := bne_iff_ne.mpr c35
            simp only [Option.some.injEq, Prod.mk.injEq] at H
            obtain ⟨rfl, rfl⟩ := H
            go_wp2
            go_ret2
            exact ⟨by first | rfl | (simp [errW_none, errW_some] <;> rfl) | (simp [*, errW_none, errW_some] <;> rfl), by repeat (first | (with_reducible first | exact HB.out | apply below_alloc | apply pw_below_drewN | apply below_drew1) | exact HB.out)⟩
  · replace c3 := Bool.eq_false_iff.mpr c3
    subst c3
    have H1 : (some ((⟨#[]⟩ : ByteArray), false)) = some (r1, r2) := by rw [if_neg (show ¬ (false = true) by decide)] at H; exact H
    clear H
    have H := H1
    clear H1
    simp only [Option.some.injEq, Prod.mk.injEq] at H
    obtain ⟨rfl, rfl⟩ := H
    go_enter Tryd.func26, Tryd.ntmps26
    go_wp2_with (first | ((with_reducible refine gate_callee (f := 28) rfl ?_); refine goesL_ (some 17) rfl rfl Tryd.func28 (by kernel_rfl) rfl #[.string a0] rfl (by (try simp only [List.map_toArray, List.map_cons, List.map_nil]); first | done | rfl | (simp only [List.length_drop, List.length_take]; rfl)) ?_; (with_reducible refine (spec_l7Read.calls k a0 t429 false _ A2.out).mono ?_); rintro e w36 ⟨v431, rfl, ho0, hb⟩; refine ⟨_, rfl, ?_⟩; have n0_ := Aside0.mk (Kd.R_lower ho0 (below_size (by repeat (first | (with_reducible first | exact HB.out | apply below_alloc | apply pw_below_drewN | apply below_drew1) | exact HB.out)))); have n1_ := Aside0.mk (below_step (by repeat (first | (with_reducible first | exact HB.out | apply below_alloc | apply pw_below_drewN | apply below_drew1) | exact HB.out)) hb); clear HB; have HO432 := n0_; have HB := n1_; clear n0_ n1_; (try clear hb); (try clear hb2); (try clear hk); (try clear hi); (try clear ho0)))
    go_ret2
    exact ⟨by first | rfl | (simp [errW_none, errW_some] <;> rfl) | (simp [*, errW_none, errW_some] <;> rfl), by repeat (first | (with_reducible first | exact HB.out | apply below_alloc | apply pw_below_drewN | apply below_drew1) | exact HB.out)⟩

end Go.Proofs.YtmhagppajcidcaaDoor.Pr
