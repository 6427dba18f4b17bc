/- MFnNumbersc: texts of this proof, joined. -/
import Derived.Test.YtojhdfdhfajjjaaDoorMFnNumbersa
import Derived.Test.YtojhdfdhfajjjaaDoorMFnNumbersb
import Derived.Laws.StructEq
namespace Go.Proofs.YtojhdfdhfajjjaaDoor.Pr
open Go.RowKit Go.Proofs.YtojhdfdhfajjjaaDoorW.PrintWords Go.Proofs.YtojhdfdhfajjjaaDoorW.PrintLast Go.Proofs.YtojhdfdhfajjjaaDoorW.PrintMore
attribute [local go_sem] max2_int min2_int max_two min_two max_three min_three max_four min_four   -- for this text's walks alone
set_option linter.unusedVariables false
set_option linter.unusedSimpArgs false
def spec_FormatLives.l0 : Nat → ByteArray → List (S42) → Int → Int → Option (ByteArray)
 | 0, _, _, _, _ => none
 | k + 1, x3, x6, x7, x8 => if x8 < x7 then (if 0 ≤ x8 then (if x8 < (x6.length : Int) then (if x8 > 0 then (if x3.size + 1 ≤ 9223372036854775807 then ((spec_l13Dec.f k ((rd_T42 x6 x8).f0)).bind fun t129 => (if (x3 ++ (⟨#[32]⟩ : ByteArray)).size + t129.size ≤ 9223372036854775807 then (if ((x3 ++ (⟨#[32]⟩ : ByteArray)) ++ t129).size + 1 ≤ 9223372036854775807 then ((spec_l13Dec.f k ((rd_T42 x6 x8).f1)).bind fun t130 => (if (((x3 ++ (⟨#[32]⟩ : ByteArray)) ++ t129) ++ (⟨#[47]⟩ : ByteArray)).size + t130.size ≤ 9223372036854775807 then (if ((((x3 ++ (⟨#[32]⟩ : ByteArray)) ++ t129) ++ (⟨#[47]⟩ : ByteArray)) ++ t130).size + 1 ≤ 9223372036854775807 then ((spec_l13Dec.f k ((rd_T42 x6 x8).f2)).bind fun t131 => (if (((((x3 ++ (⟨#[32]⟩ : ByteArray)) ++ t129) ++ (⟨#[47]⟩ : ByteArray)) ++ t130) ++ (⟨#[47]⟩ : ByteArray)).size + t131.size ≤ 9223372036854775807 then (spec_FormatLives.l0 k ((((((x3 ++ (⟨#[32]⟩ : ByteArray)) ++ t129) ++ (⟨#[47]⟩ : ByteArray)) ++ t130) ++ (⟨#[47]⟩ : ByteArray)) ++ t131) x6 x7 (wrap64 (x8 + 1))) else (none))) else (none)) else (none))) else (none)) else (none))) else (none)) else ((spec_l13Dec.f k ((rd_T42 x6 x8).f0)).bind fun t132 => (if x3.size + t132.size ≤ 9223372036854775807 then (if (x3 ++ t132).size + 1 ≤ 9223372036854775807 then ((spec_l13Dec.f k ((rd_T42 x6 x8).f1)).bind fun t133 => (if ((x3 ++ t132) ++ (⟨#[47]⟩ : ByteArray)).size + t133.size ≤ 9223372036854775807 then (if (((x3 ++ t132) ++ (⟨#[47]⟩ : ByteArray)) ++ t133).size + 1 ≤ 9223372036854775807 then ((spec_l13Dec.f k ((rd_T42 x6 x8).f2)).bind fun t134 => (if ((((x3 ++ t132) ++ (⟨#[47]⟩ : ByteArray)) ++ t133) ++ (⟨#[47]⟩ : ByteArray)).size + t134.size ≤ 9223372036854775807 then (spec_FormatLives.l0 k (((((x3 ++ t132) ++ (⟨#[47]⟩ : ByteArray)) ++ t133) ++ (⟨#[47]⟩ : ByteArray)) ++ t134) x6 x7 (wrap64 (x8 + 1))) else (none))) else (none)) else (none))) else (none)) else (none)))) else (none)) else (none)) else (if x3.toList = ([] : List UInt8) then (some (⟨#[45]⟩ : ByteArray)) else (some x3))
def spec_FormatLives.f (k : Nat) (l0 : List (S42)) : Option (ByteArray) := spec_FormatLives.l0 k (⟨#[]⟩ : ByteArray) l0 (l0.length : Int) 0
def spec_FormatLives.T7 : Bool × List (List Nat × List Nat) := (true, [([], []), ([], []), ([1], [1]), ([2], [2]), ([0, 3], [0, 3]), ([4], [4]), ([], []), ([6], [6]), ([7, 3], [7]), ([5, 8], [5, 8]), ([9], [9]), ([], []), ([11], [11]), ([12, 8], [12]), ([10, 13], [10, 13]), ([14, 13, 0, 1, 2, 3, 4, 5, 6, 7, 8, 9, 10, 11, 12, 13, 14], [0, 14])])
def spec_FormatLives.B7 : List Nat := [0, 0, 2, 6, 15, 31, 0, 64, 206, 511, 1023, 0, 2048, 6606, 16383, 32767]
theorem spec_FormatLives.tab7 : rtab .any (opsOf Tryd.f10 7) = spec_FormatLives.T7 := by kernel_rfl
theorem spec_FormatLives.bits7 : waitsOk spec_FormatLives.T7.2 spec_FormatLives.B7 = true := by kernel_rfl
set_option maxHeartbeats 8000000 in
set_option maxRecDepth 100000 in
theorem spec_FormatLives.calls (k : Nat) (A0 : Option Addr) (c0 : Nat) (l0 : List (S42)) (r : ByteArray) (w : World) (hr0 : Kd.C k42 w A0 l0.length l0) (hc0 : l0.length ≤ c0) (h : spec_FormatLives.f k l0 = some r) :
  Calls Tryd.prog 10 #[.slice A0 l0.length c0] w fun e w' => e = .returned (.string r) ∧ Below w.heap.size w w' := by
 have hu42 := Tryd.underlying42
 have HR0 := Az.mk hr0
 have HC0 := Az.mk hc0
 clear hr0 hc0
 have HB := Az.mk (Below.refl w.heap.size w)
 have H : (spec_FormatLives.l0 k (⟨#[]⟩ : ByteArray) l0 (l0.length : Int) 0) = some r := h
 clear h
 have H' := Az.mk H
 clear H
 go_enter Tryd.func10, Tryd.ntmps10
 go_wp2
 go_loopg [3, 8] k (fun kq v3 v8 w' => ∃ (x3_1 : ByteArray) (x8_1 : Int), v3 = .string x3_1 ∧ v8 = .int .i64 x8_1 ∧ Az (spec_FormatLives.l0 kq x3_1 l0 (l0.length : Int) x8_1 = some r) ∧ Az (kq ≤ k) ∧ Az (Below w.heap.size w w'))
 case atStart => exact ⟨((⟨#[]⟩ : ByteArray)), (0), (by first | rfl | (simp; done) | (simp [*]; done)), (by first | rfl | (simp; done) | (simp [*]; done)), H', ⟨Nat.le_refl _⟩, ⟨by repeat (first | (with_reducible first|exact HB.out|apply bA|apply bN|apply bD) | exact HB.out)⟩⟩
 case round =>
  clear H'
  try clear c1
  obtain ⟨x3_1, x8_1, rfl, rfl, HA, HK1, HB⟩ := hrel
  cases gk with
  | zero => exact absurd HA.out (by simp [spec_FormatLives.l0])
  | succ k1 =>
   have H := HA.out
   clear HA
   simp only [spec_FormatLives.l0] at H
   by_cases c2 : x8_1 < (l0.length : Int)
   ·rw [if_pos c2] at H
    have c2b0 : decide (x8_1 < (l0.length : Int)) = true := decide_eq_true c2
    clear c2
    by_cases c3 : 0 ≤ x8_1
    ·rw [if_pos c3] at H
     have c3b0 : decide (0 ≤ x8_1) = true := decide_eq_true c3
     clear c3
     by_cases c4 : x8_1 < (l0.length : Int)
     ·rw [if_pos c4] at H
      have c4b0 : decide (x8_1 < (l0.length : Int)) = true := decide_eq_true c4
      clear c4
      by_cases c5 : x8_1 > 0
      ·rw [if_pos c5] at H
       have c5b0 : decide (0 < x8_1) = true := decide_eq_true c5
       clear c5
       by_cases c6 : x3_1.size + 1 ≤ 9223372036854775807
       ·rw [if_pos c6] at H
        have c6b0 := eq_true c6
        have c6b1 : decide (x3_1.size + 1 ≤ 9223372036854775807) = true := decide_eq_true c6
        try have c6b2 : (9223372036854775807 < x3_1.size + 1) = False := eq_false (Nat.not_lt.2 c6)
        replace H := Option.bind_eq_some_iff.mp H
        obtain ⟨t129, A70, H⟩ := H
        replace H : (if (x3_1 ++ (⟨#[32]⟩ : ByteArray)).size + t129.size ≤ 9223372036854775807 then (if ((x3_1 ++ (⟨#[32]⟩ : ByteArray)) ++ t129).size + 1 ≤ 9223372036854775807 then ((spec_l13Dec.f k1 ((rd_T42 l0 x8_1).f1)).bind fun t130 => (if (((x3_1 ++ (⟨#[32]⟩ : ByteArray)) ++ t129) ++ (⟨#[47]⟩ : ByteArray)).size + t130.size ≤ 9223372036854775807 then (if ((((x3_1 ++ (⟨#[32]⟩ : ByteArray)) ++ t129) ++ (⟨#[47]⟩ : ByteArray)) ++ t130).size + 1 ≤ 9223372036854775807 then ((spec_l13Dec.f k1 ((rd_T42 l0 x8_1).f2)).bind fun t131 => (if (((((x3_1 ++ (⟨#[32]⟩ : ByteArray)) ++ t129) ++ (⟨#[47]⟩ : ByteArray)) ++ t130) ++ (⟨#[47]⟩ : ByteArray)).size + t131.size ≤ 9223372036854775807 then (spec_FormatLives.l0 k1 ((((((x3_1 ++ (⟨#[32]⟩ : ByteArray)) ++ t129) ++ (⟨#[47]⟩ : ByteArray)) ++ t130) ++ (⟨#[47]⟩ : ByteArray)) ++ t131) l0 (l0.length : Int) (wrap64 (x8_1 + 1))) else (none))) else (none)) else (none))) else (none)) else (none)) = some r := H
        have A7 := Az.mk A70
        clear A70
        by_cases c8 : (x3_1 ++ (⟨#[32]⟩ : ByteArray)).size + t129.size ≤ 9223372036854775807
        ·rw [if_pos c8] at H
         have c8b0 := eq_true c8
         have c8b1 : decide ((x3_1 ++ (⟨#[32]⟩ : ByteArray)).size + t129.size ≤ 9223372036854775807) = true := decide_eq_true c8
         try have c8b2 : (9223372036854775807 < (x3_1 ++ (⟨#[32]⟩ : ByteArray)).size + t129.size) = False := eq_false (Nat.not_lt.2 c8)
         have c8z : x3_1.size + 1 + t129.size ≤ 9223372036854775807 := by have h := c8; simp only [ByteArray.size_append] at h; exact h
         have c8b4 : decide (x3_1.size + 1 + t129.size ≤ 9223372036854775807) = true := decide_eq_true c8z
         have c8b5 : (9223372036854775807 < x3_1.size + 1 + t129.size) = False := eq_false (Nat.not_lt.2 c8z)
         replace c8z := eq_true c8z
         by_cases c9 : ((x3_1 ++ (⟨#[32]⟩ : ByteArray)) ++ t129).size + 1 ≤ 9223372036854775807
         ·rw [if_pos c9] at H
          have c9b0 := eq_true c9
          have c9b1 : decide (((x3_1 ++ (⟨#[32]⟩ : ByteArray)) ++ t129).size + 1 ≤ 9223372036854775807) = true := decide_eq_true c9
          try have c9b2 : (9223372036854775807 < ((x3_1 ++ (⟨#[32]⟩ : ByteArray)) ++ t129).size + 1) = False := eq_false (Nat.not_lt.2 c9)
          have c9z : x3_1.size + 1 + t129.size + 1 ≤ 9223372036854775807 := by have h := c9; simp only [ByteArray.size_append] at h; exact h
          have c9b4 : decide (x3_1.size + 1 + t129.size + 1 ≤ 9223372036854775807) = true := decide_eq_true c9z
          have c9b5 : (9223372036854775807 < x3_1.size + 1 + t129.size + 1) = False := eq_false (Nat.not_lt.2 c9z)
          replace c9z := eq_true c9z
          replace H := Option.bind_eq_some_iff.mp H
          obtain ⟨t130, A100, H⟩ := H
          replace H : (if (((x3_1 ++ (⟨#[32]⟩ : ByteArray)) ++ t129) ++ (⟨#[47]⟩ : ByteArray)).size + t130.size ≤ 9223372036854775807 then (if ((((x3_1 ++ (⟨#[32]⟩ : ByteArray)) ++ t129) ++ (⟨#[47]⟩ : ByteArray)) ++ t130).size + 1 ≤ 9223372036854775807 then ((spec_l13Dec.f k1 ((rd_T42 l0 x8_1).f2)).bind fun t131 => (if (((((x3_1 ++ (⟨#[32]⟩ : ByteArray)) ++ t129) ++ (⟨#[47]⟩ : ByteArray)) ++ t130) ++ (⟨#[47]⟩ : ByteArray)).size + t131.size ≤ 9223372036854775807 then (spec_FormatLives.l0 k1 ((((((x3_1 ++ (⟨#[32]⟩ : ByteArray)) ++ t129) ++ (⟨#[47]⟩ : ByteArray)) ++ t130) ++ (⟨#[47]⟩ : ByteArray)) ++ t131) l0 (l0.length : Int) (wrap64 (x8_1 + 1))) else (none))) else (none)) else (none)) = some r := H
          have A10 := Az.mk A100
          clear A100
          by_cases c11 : (((x3_1 ++ (⟨#[32]⟩ : ByteArray)) ++ t129) ++ (⟨#[47]⟩ : ByteArray)).size + t130.size ≤ 9223372036854775807
          ·rw [if_pos c11] at H
           have c11b0 := eq_true c11
           have c11b1 : decide ((((x3_1 ++ (⟨#[32]⟩ : ByteArray)) ++ t129) ++ (⟨#[47]⟩ : ByteArray)).size + t130.size ≤ 9223372036854775807) = true := decide_eq_true c11
           try have c11b2 : (9223372036854775807 < (((x3_1 ++ (⟨#[32]⟩ : ByteArray)) ++ t129) ++ (⟨#[47]⟩ : ByteArray)).size + t130.size) = False := eq_false (Nat.not_lt.2 c11)
           have c11z : x3_1.size + 1 + t129.size + 1 + t130.size ≤ 9223372036854775807 := by have h := c11; simp only [ByteArray.size_append] at h; exact h
           have c11b4 : decide (x3_1.size + 1 + t129.size + 1 + t130.size ≤ 9223372036854775807) = true := decide_eq_true c11z
           have c11b5 : (9223372036854775807 < x3_1.size + 1 + t129.size + 1 + t130.size) = False := eq_false (Nat.not_lt.2 c11z)
           replace c11z := eq_true c11z
           by_cases c12 : ((((x3_1 ++ (⟨#[32]⟩ : ByteArray)) ++ t129) ++ (⟨#[47]⟩ : ByteArray)) ++ t130).size + 1 ≤ 9223372036854775807
           ·rw [if_pos c12] at H
            have c12b0 := eq_true c12
            have c12b1 : decide (((((x3_1 ++ (⟨#[32]⟩ : ByteArray)) ++ t129) ++ (⟨#[47]⟩ : ByteArray)) ++ t130).size + 1 ≤ 9223372036854775807) = true := decide_eq_true c12
            try have c12b2 : (9223372036854775807 < ((((x3_1 ++ (⟨#[32]⟩ : ByteArray)) ++ t129) ++ (⟨#[47]⟩ : ByteArray)) ++ t130).size + 1) = False := eq_false (Nat.not_lt.2 c12)
            have c12z : x3_1.size + 1 + t129.size + 1 + t130.size + 1 ≤ 9223372036854775807 := by have h := c12; simp only [ByteArray.size_append] at h; exact h
            have c12b4 : decide (x3_1.size + 1 + t129.size + 1 + t130.size + 1 ≤ 9223372036854775807) = true := decide_eq_true c12z
            have c12b5 : (9223372036854775807 < x3_1.size + 1 + t129.size + 1 + t130.size + 1) = False := eq_false (Nat.not_lt.2 c12z)
            replace c12z := eq_true c12z
            replace H := Option.bind_eq_some_iff.mp H
            obtain ⟨t131, A130, H⟩ := H
            replace H : (if (((((x3_1 ++ (⟨#[32]⟩ : ByteArray)) ++ t129) ++ (⟨#[47]⟩ : ByteArray)) ++ t130) ++ (⟨#[47]⟩ : ByteArray)).size + t131.size ≤ 9223372036854775807 then (spec_FormatLives.l0 k1 ((((((x3_1 ++ (⟨#[32]⟩ : ByteArray)) ++ t129) ++ (⟨#[47]⟩ : ByteArray)) ++ t130) ++ (⟨#[47]⟩ : ByteArray)) ++ t131) l0 (l0.length : Int) (wrap64 (x8_1 + 1))) else (none)) = some r := H
            have A13 := Az.mk A130
            clear A130
            by_cases c14 : (((((x3_1 ++ (⟨#[32]⟩ : ByteArray)) ++ t129) ++ (⟨#[47]⟩ : ByteArray)) ++ t130) ++ (⟨#[47]⟩ : ByteArray)).size + t131.size ≤ 9223372036854775807
            ·rw [if_pos c14] at H
             have c14b0 := eq_true c14
             have c14b1 : decide ((((((x3_1 ++ (⟨#[32]⟩ : ByteArray)) ++ t129) ++ (⟨#[47]⟩ : ByteArray)) ++ t130) ++ (⟨#[47]⟩ : ByteArray)).size + t131.size ≤ 9223372036854775807) = true := decide_eq_true c14
             try have c14b2 : (9223372036854775807 < (((((x3_1 ++ (⟨#[32]⟩ : ByteArray)) ++ t129) ++ (⟨#[47]⟩ : ByteArray)) ++ t130) ++ (⟨#[47]⟩ : ByteArray)).size + t131.size) = False := eq_false (Nat.not_lt.2 c14)
             have c14z : x3_1.size + 1 + t129.size + 1 + t130.size + 1 + t131.size ≤ 9223372036854775807 := by have h := c14; simp only [ByteArray.size_append] at h; exact h
             have c14b4 : decide (x3_1.size + 1 + t129.size + 1 + t130.size + 1 + t131.size ≤ 9223372036854775807) = true := decide_eq_true c14z
             have c14b5 : (9223372036854775807 < x3_1.size + 1 + t129.size + 1 + t130.size + 1 + t131.size) = False := eq_false (Nat.not_lt.2 c14z)
             replace c14z := eq_true c14z
             have H' := Az.mk H
             clear H
             have p127 : 0 ≤ (x8_1 : Int) := of_decide_eq_true (by first|(with_reducible assumption)|assumption)
             have q127 : x8_1 < (l0.length : Int) := of_decide_eq_true (by first|(with_reducible assumption)|assumption)
             obtain ⟨ad127, e127, hx127_0, hx127_1, hx127_2⟩ := at_T42 HR0.out x8_1 p127 q127
             cases e127
             replace hx127_0 := (HB.out.cell (World.block_lt_of_cell? w _ hx127_0)).trans hx127_0
             replace hx127_1 := (HB.out.cell (World.block_lt_of_cell? w _ hx127_1)).trans hx127_1
             replace hx127_2 := (HB.out.cell (World.block_lt_of_cell? w _ hx127_2)).trans hx127_2
             replace p127 := eq_true p127
             replace q127 := eq_true q127
             try go_wp2_with (first | ((with_reducible refine gate_dst (N := 5) rfl ?_); refine box_event ?hg (N := 5) ?hd (cs := #[.int .i64 0, .int .i64 0, .int .i64 0]) (t := 42) ?hr ?_; (case hd => rfl); (case hg => rfl); (case hr => first | (go_simp; done) | (go_simp; rfl)); intro gb128 hg w15 hbox hb; have n0_ := Az.mk (bS (by repeat first|exact HB.out|apply bA|apply bN|apply bD) hb); have n1_ := Az.mk (hbox); have n2_ := Az.mk ((by rw [hg]; exact (bZ (by repeat first|exact HB.out|apply bA|apply bN|apply bD)) : w.heap.size ≤ gb128)); have n3_ := Az.mk ((by rw [hg]; exact (bZ (by repeat first|exact HB.out|apply bA|apply bN|apply bD)) : w.heap.size ≤ gb128)); clear HB; have HB := n0_; have BK128 := n1_; have GW128 := n2_; have GE128 := n3_; clear n0_ n1_ n2_ n3_; clear hb hbox hg; have hcz16_0 : w15.cell? ⟨gb128, 0, none⟩ = some (.int .i64 0) := (blk_cell BK128.out 0).trans rfl; have hcz16_1 : w15.cell? ⟨gb128, 1, none⟩ = some (.int .i64 0) := (blk_cell BK128.out 1).trans rfl; have hcz16_2 : w15.cell? ⟨gb128, 2, none⟩ = some (.int .i64 0) := (blk_cell BK128.out 2).trans rfl; have hfz16_0 := blk_frozen BK128.out 0; have hfz16_1 := blk_frozen BK128.out 1; have hfz16_2 := blk_frozen BK128.out 2))
             have n0_ : Az ((((w15.setCell ⟨gb128, 0, none⟩ (.int .i64 ((rd_T42 l0 x8_1).f0))).setCell ⟨gb128, 1, none⟩ (.int .i64 ((rd_T42 l0 x8_1).f1))).setCell ⟨gb128, 2, none⟩ (.int .i64 ((rd_T42 l0 x8_1).f2))).heap[gb128]? = some (.cells #[.int .i64 ((rd_T42 l0 x8_1).f0), .int .i64 ((rd_T42 l0 x8_1).f1), .int .i64 ((rd_T42 l0 x8_1).f2)] 42 (0, 0))) := ⟨by (with_reducible repeat first|refine blN ?_ _|refine bl1 ?_|refine blA ?_ _); refine blk_put (cs := #[.int .i64 ((rd_T42 l0 x8_1).f0), .int .i64 ((rd_T42 l0 x8_1).f1), .int .i64 0]) ?_ 2 _ rfl; (with_reducible repeat first|refine blN ?_ _|refine bl1 ?_|refine blA ?_ _); refine blk_put (cs := #[.int .i64 ((rd_T42 l0 x8_1).f0), .int .i64 0, .int .i64 0]) ?_ 1 _ rfl; (with_reducible repeat first|refine blN ?_ _|refine bl1 ?_|refine blA ?_ _); refine blk_put (cs := #[.int .i64 0, .int .i64 0, .int .i64 0]) ?_ 0 _ rfl; (with_reducible repeat first|refine blN ?_ _|refine bl1 ?_|refine blA ?_ _); exact BK128.out⟩
             have n1_ : Az (Below w.heap.size w (((w15.setCell ⟨gb128, 0, none⟩ (.int .i64 ((rd_T42 l0 x8_1).f0))).setCell ⟨gb128, 1, none⟩ (.int .i64 ((rd_T42 l0 x8_1).f1))).setCell ⟨gb128, 2, none⟩ (.int .i64 ((rd_T42 l0 x8_1).f2)))) := ⟨by repeat (first | (with_reducible first|exact HB.out|apply bA|apply bN|apply bD | refine below_set ?_ GE128.out) | exact HB.out)⟩
             (try clear BK128)
             (try clear HB)
             generalize (((w15.setCell ⟨gb128, 0, none⟩ (.int .i64 ((rd_T42 l0 x8_1).f0))).setCell ⟨gb128, 1, none⟩ (.int .i64 ((rd_T42 l0 x8_1).f1))).setCell ⟨gb128, 2, none⟩ (.int .i64 ((rd_T42 l0 x8_1).f2))) = w17 at n0_ n1_ ⊢
             have BK128 := n0_
             have HB := n1_
             clear n0_ n1_
             have n0_ := Az.mk (bl1 BK128.out)
             have n1_ := Az.mk (bD HB.out)
             clear BK128
             clear HB
             have BK128 := n0_
             have HB := n1_
             clear n0_ n1_
             refine start_ (n := 16) (S := fun w' => w'.cell? ⟨gb128, 0, none⟩ = some (.int .i64 ((rd_T42 l0 x8_1).f0)) ∧ w'.cell? ⟨gb128, 1, none⟩ = some (.int .i64 ((rd_T42 l0 x8_1).f1)) ∧ w'.cell? ⟨gb128, 2, none⟩ = some (.int .i64 ((rd_T42 l0 x8_1).f2))) (ds := []) #[false, false, false, false, false, false, false, false, false, false, false, false, false, false, false, false] (by kernel_rfl) rfl rfl ⟨(blk_cell BK128.out 0).trans rfl, (blk_cell BK128.out 1).trans rfl, (blk_cell BK128.out 2).trans rfl⟩ (fun hHeld => ?_); refine with_tabW spec_FormatLives.tab7 spec_FormatLives.bits7 (fun HT_ HW_ => ?_)
             generalize w17.drew = w18 at BK128 HB hHeld ⊢
             refine pure_ (i := 0) (N := some 17) (v := ?_) (a' := ?_) #[true, false, false, false, false, false, false, false, false, false, false, false, false, false, false, false] rfl rfl (any_of HT_.out (by kernel_rfl)) (fun _ _ _ h => h) (Or.inl ⟨by rfl, ?_⟩) ?_ ?_
             rotate_left
             ·intro w'
              go_simp
              with_reducible rfl
             rotate_left
             ·simp only [Act.put, List.setIfInBounds_toArray, List.set_cons_zero, List.set_cons_succ, i64_w, i32_w]
              rfl
             refine pure_ (i := 1) (N := some 18) (v := ?_) (a' := ?_) #[true, true, false, false, false, false, false, false, false, false, false, false, false, false, false, false] rfl rfl (any_of HT_.out (by kernel_rfl)) (fun _ _ _ h => h) (Or.inl ⟨by rfl, ?_⟩) ?_ ?_
             rotate_left
             ·intro w'
              go_simp
              with_reducible rfl
             rotate_left
             ·simp only [Act.put, List.setIfInBounds_toArray, List.set_cons_zero, List.set_cons_succ, i64_w, i32_w]
              rfl
             refine pure_ (i := 6) (N := some 23) (v := ?_) (a' := ?_) #[true, true, false, false, false, false, true, false, false, false, false, false, false, false, false, false] rfl rfl (any_of HT_.out (by kernel_rfl)) (fun _ _ _ h => h) (Or.inl ⟨by rfl, ?_⟩) ?_ ?_
             rotate_left
             ·intro w'
              go_simp
              with_reducible rfl
             rotate_left
             ·simp only [Act.put, List.setIfInBounds_toArray, List.set_cons_zero, List.set_cons_succ, i64_w, i32_w]
              rfl
             refine pure_ (i := 11) (N := some 28) (v := ?_) (a' := ?_) #[true, true, false, false, false, false, true, false, false, false, false, true, false, false, false, false] rfl rfl (any_of HT_.out (by kernel_rfl)) (fun _ _ _ h => h) (Or.inl ⟨by rfl, ?_⟩) ?_ ?_
             rotate_left
             ·intro w'
              go_simp
              with_reducible rfl
             rotate_left
             ·simp only [Act.put, List.setIfInBounds_toArray, List.set_cons_zero, List.set_cons_succ, i64_w, i32_w]
              rfl
             refine take_ (i := 2) (N := some 19) (v := ?_) (a' := ?_) #[true, true, true, false, false, false, true, false, false, false, false, true, false, false, false, false] rfl rfl (take_ofW HT_.out HW_.out (by kernel_rfl)) (fun _ _ _ h => h) (Or.inl ⟨by rfl, ?_⟩) hHeld ?_ ?_
             rotate_left
             ·rintro w' ⟨s0, s1, s2⟩
              go_simp
              with_reducible rfl
             rotate_left
             ·simp only [Act.put, List.setIfInBounds_toArray, List.set_cons_zero, List.set_cons_succ, i64_w, i32_w]
              rfl
             refine take_ (i := 7) (N := some 24) (v := ?_) (a' := ?_) #[true, true, true, false, false, false, true, true, false, false, false, true, false, false, false, false] rfl rfl (take_ofW HT_.out HW_.out (by kernel_rfl)) (fun _ _ _ h => h) (Or.inl ⟨by rfl, ?_⟩) hHeld ?_ ?_
             rotate_left
             ·rintro w' ⟨s0, s1, s2⟩
              go_simp
              with_reducible rfl
             rotate_left
             ·simp only [Act.put, List.setIfInBounds_toArray, List.set_cons_zero, List.set_cons_succ, i64_w, i32_w]
              rfl
             refine take_ (i := 12) (N := some 29) (v := ?_) (a' := ?_) #[true, true, true, false, false, false, true, true, false, false, false, true, true, false, false, false] rfl rfl (take_ofW HT_.out HW_.out (by kernel_rfl)) (fun _ _ _ h => h) (Or.inl ⟨by rfl, ?_⟩) hHeld ?_ ?_
             rotate_left
             ·rintro w' ⟨s0, s1, s2⟩
              go_simp
              with_reducible rfl
             rotate_left
             ·simp only [Act.put, List.setIfInBounds_toArray, List.set_cons_zero, List.set_cons_succ, i64_w, i32_w]
              rfl
             refine one_ (i := 3) (N := some 20) #[true, true, true, true, false, false, true, true, false, false, false, true, true, false, false, false] rfl rfl (one_of HT_.out (by kernel_rfl)) (by decide) (fun K hK => ?_)
             refine goes_ Tryd.func18 (by kernel_rfl) rfl #[.int .i64 ((rd_T42 l0 x8_1).f0)] (by rfl) rfl rfl (by (try simp only [List.map_toArray, List.map_cons, List.map_nil]); first | done | rfl | (simp only [List.length_drop, List.length_take]; rfl)) ?_
             with_reducible refine (spec_l13Dec.calls k1 ((rd_T42 l0 x8_1).f0) t129 _ A7.out).mono ?_
             rintro e w19 ⟨rfl, hb⟩
             refine ⟨_, rfl, ?_⟩
             have n0_ := Az.mk (blk_below (g := gb128) (o := .cells #[.int .i64 ((rd_T42 l0 x8_1).f0), .int .i64 ((rd_T42 l0 x8_1).f1), .int .i64 ((rd_T42 l0 x8_1).f2)] 42 (0, 0)) (by (with_reducible repeat first|refine blN ?_ _|refine bl1 ?_|refine blA ?_ _); exact BK128.out) hb)
             have n1_ := Az.mk (bS (by repeat (first | (with_reducible first|exact HB.out|apply bA|apply bN|apply bD | refine below_set ?_ GE128.out) | exact HB.out)) hb)
             clear BK128
             clear HB
             have BK128 := n0_
             have HB := n1_
             clear n0_ n1_
             (try clear hb)
             (try clear hb2)
             (try clear hk)
             (try clear hi)
             refine hK.out _ _ ⟨(blk_cell BK128.out 0).trans rfl, (blk_cell BK128.out 1).trans rfl, (blk_cell BK128.out 2).trans rfl⟩ (fun hHeld => ?_)
             clear hK K
             refine norm_ (a' := ?_) ?_ ?_
             rotate_left
             ·show Act.put _ (some 20) _ = _
              simp only [Act.put, List.setIfInBounds_toArray, List.set_cons_zero, List.set_cons_succ, i64_w, i32_w]
              rfl
             refine pure_ (i := 4) (N := some 21) (v := ?_) (a' := ?_) #[true, true, true, true, true, false, true, true, false, false, false, true, true, false, false, false] rfl rfl (any_of HT_.out (by kernel_rfl)) (fun _ _ _ h => h) (Or.inl ⟨by rfl, ?_⟩) ?_ ?_
             rotate_left
             ·intro w'
              go_simp
              with_reducible rfl
             rotate_left
             ·simp only [Act.put, List.setIfInBounds_toArray, List.set_cons_zero, List.set_cons_succ, i64_w, i32_w]
              rfl
             refine pure_ (i := 5) (N := some 22) (v := ?_) (a' := ?_) #[true, true, true, true, true, true, true, true, false, false, false, true, true, false, false, false] rfl rfl (any_of HT_.out (by kernel_rfl)) (fun _ _ _ h => h) (Or.inl ⟨by rfl, ?_⟩) ?_ ?_
             rotate_left
             ·intro w'
              go_simp
              with_reducible rfl
             rotate_left
             ·simp only [Act.put, List.setIfInBounds_toArray, List.set_cons_zero, List.set_cons_succ, i64_w, i32_w]
              rfl
             refine one_ (i := 8) (N := some 25) #[true, true, true, true, true, true, true, true, true, false, false, true, true, false, false, false] rfl rfl (one_of HT_.out (by kernel_rfl)) (by decide) (fun K hK => ?_)
             refine goes_ Tryd.func18 (by kernel_rfl) rfl #[.int .i64 ((rd_T42 l0 x8_1).f1)] (by rfl) rfl rfl (by (try simp only [List.map_toArray, List.map_cons, List.map_nil]); first | done | rfl | (simp only [List.length_drop, List.length_take]; rfl)) ?_
             with_reducible refine (spec_l13Dec.calls k1 ((rd_T42 l0 x8_1).f1) t130 _ A10.out).mono ?_
             rintro e w20 ⟨rfl, hb⟩
             refine ⟨_, rfl, ?_⟩
             have n0_ := Az.mk (blk_below (g := gb128) (o := .cells #[.int .i64 ((rd_T42 l0 x8_1).f0), .int .i64 ((rd_T42 l0 x8_1).f1), .int .i64 ((rd_T42 l0 x8_1).f2)] 42 (0, 0)) (by (with_reducible repeat first|refine blN ?_ _|refine bl1 ?_|refine blA ?_ _); exact BK128.out) hb)
             have n1_ := Az.mk (bS (by repeat (first | (with_reducible first|exact HB.out|apply bA|apply bN|apply bD | refine below_set ?_ GE128.out) | exact HB.out)) hb)
             clear BK128
             clear HB
             have BK128 := n0_
             have HB := n1_
             clear n0_ n1_
             (try clear hb)
             (try clear hb2)
             (try clear hk)
             (try clear hi)
             refine hK.out _ _ ⟨(blk_cell BK128.out 0).trans rfl, (blk_cell BK128.out 1).trans rfl, (blk_cell BK128.out 2).trans rfl⟩ (fun hHeld => ?_)
             clear hK K
             refine norm_ (a' := ?_) ?_ ?_
             rotate_left
             ·show Act.put _ (some 25) _ = _
              simp only [Act.put, List.setIfInBounds_toArray, List.set_cons_zero, List.set_cons_succ, i64_w, i32_w]
              rfl
             refine pure_ (i := 9) (N := some 26) (v := ?_) (a' := ?_) #[true, true, true, true, true, true, true, true, true, true, false, true, true, false, false, false] rfl rfl (any_of HT_.out (by kernel_rfl)) (fun _ _ _ h => h) (Or.inl ⟨by rfl, ?_⟩) ?_ ?_
             rotate_left
             ·intro w'
              go_simp
              with_reducible rfl
             rotate_left
             ·simp only [Act.put, List.setIfInBounds_toArray, List.set_cons_zero, List.set_cons_succ, i64_w, i32_w]
              rfl
             refine pure_ (i := 10) (N := some 27) (v := ?_) (a' := ?_) #[true, true, true, true, true, true, true, true, true, true, true, true, true, false, false, false] rfl rfl (any_of HT_.out (by kernel_rfl)) (fun _ _ _ h => h) (Or.inl ⟨by rfl, ?_⟩) ?_ ?_
             rotate_left
             ·intro w'
              go_simp
              with_reducible rfl
             rotate_left
             ·simp only [Act.put, List.setIfInBounds_toArray, List.set_cons_zero, List.set_cons_succ, i64_w, i32_w]
              rfl
             refine one_ (i := 13) (N := some 30) #[true, true, true, true, true, true, true, true, true, true, true, true, true, true, false, false] rfl rfl (one_of HT_.out (by kernel_rfl)) (by decide) (fun K hK => ?_)
             refine goes_ Tryd.func18 (by kernel_rfl) rfl #[.int .i64 ((rd_T42 l0 x8_1).f2)] (by rfl) rfl rfl (by (try simp only [List.map_toArray, List.map_cons, List.map_nil]); first | done | rfl | (simp only [List.length_drop, List.length_take]; rfl)) ?_
             with_reducible refine (spec_l13Dec.calls k1 ((rd_T42 l0 x8_1).f2) t131 _ A13.out).mono ?_
             rintro e w21 ⟨rfl, hb⟩
             refine ⟨_, rfl, ?_⟩
             have n0_ := Az.mk (blk_below (g := gb128) (o := .cells #[.int .i64 ((rd_T42 l0 x8_1).f0), .int .i64 ((rd_T42 l0 x8_1).f1), .int .i64 ((rd_T42 l0 x8_1).f2)] 42 (0, 0)) (by (with_reducible repeat first|refine blN ?_ _|refine bl1 ?_|refine blA ?_ _); exact BK128.out) hb)
             have n1_ := Az.mk (bS (by repeat (first | (with_reducible first|exact HB.out|apply bA|apply bN|apply bD | refine below_set ?_ GE128.out) | exact HB.out)) hb)
             clear BK128
             clear HB
             have BK128 := n0_
             have HB := n1_
             clear n0_ n1_
             (try clear hb)
             (try clear hb2)
             (try clear hk)
             (try clear hi)
             refine hK.out _ _ ⟨(blk_cell BK128.out 0).trans rfl, (blk_cell BK128.out 1).trans rfl, (blk_cell BK128.out 2).trans rfl⟩ (fun hHeld => ?_)
             clear hK K
             refine norm_ (a' := ?_) ?_ ?_
             rotate_left
             ·show Act.put _ (some 30) _ = _
              simp only [Act.put, List.setIfInBounds_toArray, List.set_cons_zero, List.set_cons_succ, i64_w, i32_w]
              rfl
             refine pure_ (i := 14) (N := some 31) (v := ?_) (a' := ?_) #[true, true, true, true, true, true, true, true, true, true, true, true, true, true, true, false] rfl rfl (any_of HT_.out (by kernel_rfl)) (fun _ _ _ h => h) (Or.inl ⟨by rfl, ?_⟩) ?_ ?_
             rotate_left
             ·intro w'
              go_simp
              with_reducible rfl
             rotate_left
             ·simp only [Act.put, List.setIfInBounds_toArray, List.set_cons_zero, List.set_cons_succ, i64_w, i32_w]
              rfl
             refine pure_ (i := 15) (N := some 3) (v := ?_) (a' := ?_) #[true, true, true, true, true, true, true, true, true, true, true, true, true, true, true, true] rfl rfl (any_of HT_.out (by kernel_rfl)) (fun _ _ _ h => h) (Or.inl ⟨by rfl, ?_⟩) ?_ ?_
             rotate_left
             ·intro w'
              go_simp
              with_reducible rfl
             rotate_left
             ·simp only [Act.put, List.setIfInBounds_toArray, List.set_cons_zero, List.set_cons_succ, i64_w, i32_w]
              rfl
             refine done_ (done_of HT_.out (by kernel_rfl)) ?_
             try go_wp2
             go_roundg k1
             case measure => have := HK1.out; omega
             case rel => exact ⟨((((((x3_1 ++ (⟨#[32]⟩ : ByteArray)) ++ t129) ++ (⟨#[47]⟩ : ByteArray)) ++ t130) ++ (⟨#[47]⟩ : ByteArray)) ++ t131), (wrap64 (x8_1 + 1)), (by first | rfl | (simp; done) | (simp [*]; done)), (by first | rfl | (simp; done) | (simp [*]; done)), H', ⟨by have := HK1.out; omega⟩, ⟨by repeat (first | (with_reducible first|exact HB.out|apply bA|apply bN|apply bD | refine below_set ?_ GE128.out) | exact HB.out)⟩⟩
            ·rw [if_neg c14] at H
             exact absurd H (by simp)
           ·rw [if_neg c12] at H
            exact absurd H (by simp)
          ·rw [if_neg c11] at H
           exact absurd H (by simp)
         ·rw [if_neg c9] at H
          exact absurd H (by simp)
        ·rw [if_neg c8] at H
         exact absurd H (by simp)
       ·rw [if_neg c6] at H
        exact absurd H (by simp)
      ·rw [if_neg c5] at H
       have c5b0 : decide (0 < x8_1) = false := decide_eq_false c5
       clear c5
       replace H := Option.bind_eq_some_iff.mp H
       obtain ⟨t132, A220, H⟩ := H
       replace H : (if x3_1.size + t132.size ≤ 9223372036854775807 then (if (x3_1 ++ t132).size + 1 ≤ 9223372036854775807 then ((spec_l13Dec.f k1 ((rd_T42 l0 x8_1).f1)).bind fun t133 => (if ((x3_1 ++ t132) ++ (⟨#[47]⟩ : ByteArray)).size + t133.size ≤ 9223372036854775807 then (if (((x3_1 ++ t132) ++ (⟨#[47]⟩ : ByteArray)) ++ t133).size + 1 ≤ 9223372036854775807 then ((spec_l13Dec.f k1 ((rd_T42 l0 x8_1).f2)).bind fun t134 => (if ((((x3_1 ++ t132) ++ (⟨#[47]⟩ : ByteArray)) ++ t133) ++ (⟨#[47]⟩ : ByteArray)).size + t134.size ≤ 9223372036854775807 then (spec_FormatLives.l0 k1 (((((x3_1 ++ t132) ++ (⟨#[47]⟩ : ByteArray)) ++ t133) ++ (⟨#[47]⟩ : ByteArray)) ++ t134) l0 (l0.length : Int) (wrap64 (x8_1 + 1))) else (none))) else (none)) else (none))) else (none)) else (none)) = some r := H
       have A22 := Az.mk A220
       clear A220
       by_cases c23 : x3_1.size + t132.size ≤ 9223372036854775807
       ·rw [if_pos c23] at H
        have c23b0 := eq_true c23
        have c23b1 : decide (x3_1.size + t132.size ≤ 9223372036854775807) = true := decide_eq_true c23
        try have c23b2 : (9223372036854775807 < x3_1.size + t132.size) = False := eq_false (Nat.not_lt.2 c23)
        by_cases c24 : (x3_1 ++ t132).size + 1 ≤ 9223372036854775807
        ·rw [if_pos c24] at H
         have c24b0 := eq_true c24
         have c24b1 : decide ((x3_1 ++ t132).size + 1 ≤ 9223372036854775807) = true := decide_eq_true c24
         try have c24b2 : (9223372036854775807 < (x3_1 ++ t132).size + 1) = False := eq_false (Nat.not_lt.2 c24)
         have c24z : x3_1.size + t132.size + 1 ≤ 9223372036854775807 := by have h := c24; simp only [ByteArray.size_append] at h; exact h
         have c24b4 : decide (x3_1.size + t132.size + 1 ≤ 9223372036854775807) = true := decide_eq_true c24z
         have c24b5 : (9223372036854775807 < x3_1.size + t132.size + 1) = False := eq_false (Nat.not_lt.2 c24z)
         replace c24z := eq_true c24z
         replace H := Option.bind_eq_some_iff.mp H
         obtain ⟨t133, A250, H⟩ := H
         replace H : (if ((x3_1 ++ t132) ++ (⟨#[47]⟩ : ByteArray)).size + t133.size ≤ 9223372036854775807 then (if (((x3_1 ++ t132) ++ (⟨#[47]⟩ : ByteArray)) ++ t133).size + 1 ≤ 9223372036854775807 then ((spec_l13Dec.f k1 ((rd_T42 l0 x8_1).f2)).bind fun t134 => (if ((((x3_1 ++ t132) ++ (⟨#[47]⟩ : ByteArray)) ++ t133) ++ (⟨#[47]⟩ : ByteArray)).size + t134.size ≤ 9223372036854775807 then (spec_FormatLives.l0 k1 (((((x3_1 ++ t132) ++ (⟨#[47]⟩ : ByteArray)) ++ t133) ++ (⟨#[47]⟩ : ByteArray)) ++ t134) l0 (l0.length : Int) (wrap64 (x8_1 + 1))) else (none))) else (none)) else (none)) = some r := H
         have A25 := Az.mk A250
         clear A250
         by_cases c26 : ((x3_1 ++ t132) ++ (⟨#[47]⟩ : ByteArray)).size + t133.size ≤ 9223372036854775807
         ·rw [if_pos c26] at H
          have c26b0 := eq_true c26
          have c26b1 : decide (((x3_1 ++ t132) ++ (⟨#[47]⟩ : ByteArray)).size + t133.size ≤ 9223372036854775807) = true := decide_eq_true c26
          try have c26b2 : (9223372036854775807 < ((x3_1 ++ t132) ++ (⟨#[47]⟩ : ByteArray)).size + t133.size) = False := eq_false (Nat.not_lt.2 c26)
          have c26z : x3_1.size + t132.size + 1 + t133.size ≤ 9223372036854775807 := by have h := c26; simp only [ByteArray.size_append] at h; exact h
          have c26b4 : decide (x3_1.size + t132.size + 1 + t133.size ≤ 9223372036854775807) = true := decide_eq_true c26z
          have c26b5 : (9223372036854775807 < x3_1.size + t132.size + 1 + t133.size) = False := eq_false (Nat.not_lt.2 c26z)
          replace c26z := eq_true c26z
          by_cases c27 : (((x3_1 ++ t132) ++ (⟨#[47]⟩ : ByteArray)) ++ t133).size + 1 ≤ 9223372036854775807
          ·rw [if_pos c27] at H
           have c27b0 := eq_true c27
           have c27b1 : decide ((((x3_1 ++ t132) ++ (⟨#[47]⟩ : ByteArray)) ++ t133).size + 1 ≤ 9223372036854775807) = true := decide_eq_true c27
           try have c27b2 : (9223372036854775807 < (((x3_1 ++ t132) ++ (⟨#[47]⟩ : ByteArray)) ++ t133).size + 1) = False := eq_false (Nat.not_lt.2 c27)
           have c27z : x3_1.size + t132.size + 1 + t133.size + 1 ≤ 9223372036854775807 := by have h := c27; simp only [ByteArray.size_append] at h; exact h
           have c27b4 : decide (x3_1.size + t132.size + 1 + t133.size + 1 ≤ 9223372036854775807) = true := decide_eq_true c27z
           have c27b5 : (9223372036854775807 < x3_1.size + t132.size + 1 + t133.size + 1) = False := eq_false (Nat.not_lt.2 c27z)
           replace c27z := eq_true c27z
           replace H := Option.bind_eq_some_iff.mp H
           obtain ⟨t134, A280, H⟩ := H
           replace H : (if ((((x3_1 ++ t132) ++ (⟨#[47]⟩ : ByteArray)) ++ t133) ++ (⟨#[47]⟩ : ByteArray)).size + t134.size ≤ 9223372036854775807 then (spec_FormatLives.l0 k1 (((((x3_1 ++ t132) ++ (⟨#[47]⟩ : ByteArray)) ++ t133) ++ (⟨#[47]⟩ : ByteArray)) ++ t134) l0 (l0.length : Int) (wrap64 (x8_1 + 1))) else (none)) = some r := H
           have A28 := Az.mk A280
           clear A280
           by_cases c29 : ((((x3_1 ++ t132) ++ (⟨#[47]⟩ : ByteArray)) ++ t133) ++ (⟨#[47]⟩ : ByteArray)).size + t134.size ≤ 9223372036854775807
           ·rw [if_pos c29] at H
            have c29b0 := eq_true c29
            have c29b1 : decide (((((x3_1 ++ t132) ++ (⟨#[47]⟩ : ByteArray)) ++ t133) ++ (⟨#[47]⟩ : ByteArray)).size + t134.size ≤ 9223372036854775807) = true := decide_eq_true c29
            try have c29b2 : (9223372036854775807 < ((((x3_1 ++ t132) ++ (⟨#[47]⟩ : ByteArray)) ++ t133) ++ (⟨#[47]⟩ : ByteArray)).size + t134.size) = False := eq_false (Nat.not_lt.2 c29)
            have c29z : x3_1.size + t132.size + 1 + t133.size + 1 + t134.size ≤ 9223372036854775807 := by have h := c29; simp only [ByteArray.size_append] at h; exact h
            have c29b4 : decide (x3_1.size + t132.size + 1 + t133.size + 1 + t134.size ≤ 9223372036854775807) = true := decide_eq_true c29z
            have c29b5 : (9223372036854775807 < x3_1.size + t132.size + 1 + t133.size + 1 + t134.size) = False := eq_false (Nat.not_lt.2 c29z)
            replace c29z := eq_true c29z
            have H' := Az.mk H
            clear H
            have p127 : 0 ≤ (x8_1 : Int) := of_decide_eq_true (by first|(with_reducible assumption)|assumption)
            have q127 : x8_1 < (l0.length : Int) := of_decide_eq_true (by first|(with_reducible assumption)|assumption)
            obtain ⟨ad127, e127, hx127_0, hx127_1, hx127_2⟩ := at_T42 HR0.out x8_1 p127 q127
            cases e127
            replace hx127_0 := (HB.out.cell (World.block_lt_of_cell? w _ hx127_0)).trans hx127_0
            replace hx127_1 := (HB.out.cell (World.block_lt_of_cell? w _ hx127_1)).trans hx127_1
            replace hx127_2 := (HB.out.cell (World.block_lt_of_cell? w _ hx127_2)).trans hx127_2
            replace p127 := eq_true p127
            replace q127 := eq_true q127
            try go_wp2_with (first | ((with_reducible refine gate_dst (N := 5) rfl ?_); refine box_event ?hg (N := 5) ?hd (cs := #[.int .i64 0, .int .i64 0, .int .i64 0]) (t := 42) ?hr ?_; (case hd => rfl); (case hg => rfl); (case hr => first | (go_simp; done) | (go_simp; rfl)); intro gb128 hg w30 hbox hb; have n0_ := Az.mk (bS (by repeat first|exact HB.out|apply bA|apply bN|apply bD) hb); have n1_ := Az.mk (hbox); have n2_ := Az.mk ((by rw [hg]; exact (bZ (by repeat first|exact HB.out|apply bA|apply bN|apply bD)) : w.heap.size ≤ gb128)); have n3_ := Az.mk ((by rw [hg]; exact (bZ (by repeat first|exact HB.out|apply bA|apply bN|apply bD)) : w.heap.size ≤ gb128)); clear HB; have HB := n0_; have BK128 := n1_; have GW128 := n2_; have GE128 := n3_; clear n0_ n1_ n2_ n3_; clear hb hbox hg; have hcz31_0 : w30.cell? ⟨gb128, 0, none⟩ = some (.int .i64 0) := (blk_cell BK128.out 0).trans rfl; have hcz31_1 : w30.cell? ⟨gb128, 1, none⟩ = some (.int .i64 0) := (blk_cell BK128.out 1).trans rfl; have hcz31_2 : w30.cell? ⟨gb128, 2, none⟩ = some (.int .i64 0) := (blk_cell BK128.out 2).trans rfl; have hfz31_0 := blk_frozen BK128.out 0; have hfz31_1 := blk_frozen BK128.out 1; have hfz31_2 := blk_frozen BK128.out 2))
            have n0_ : Az ((((w30.setCell ⟨gb128, 0, none⟩ (.int .i64 ((rd_T42 l0 x8_1).f0))).setCell ⟨gb128, 1, none⟩ (.int .i64 ((rd_T42 l0 x8_1).f1))).setCell ⟨gb128, 2, none⟩ (.int .i64 ((rd_T42 l0 x8_1).f2))).heap[gb128]? = some (.cells #[.int .i64 ((rd_T42 l0 x8_1).f0), .int .i64 ((rd_T42 l0 x8_1).f1), .int .i64 ((rd_T42 l0 x8_1).f2)] 42 (0, 0))) := ⟨by (with_reducible repeat first|refine blN ?_ _|refine bl1 ?_|refine blA ?_ _); refine blk_put (cs := #[.int .i64 ((rd_T42 l0 x8_1).f0), .int .i64 ((rd_T42 l0 x8_1).f1), .int .i64 0]) ?_ 2 _ rfl; (with_reducible repeat first|refine blN ?_ _|refine bl1 ?_|refine blA ?_ _); refine blk_put (cs := #[.int .i64 ((rd_T42 l0 x8_1).f0), .int .i64 0, .int .i64 0]) ?_ 1 _ rfl; (with_reducible repeat first|refine blN ?_ _|refine bl1 ?_|refine blA ?_ _); refine blk_put (cs := #[.int .i64 0, .int .i64 0, .int .i64 0]) ?_ 0 _ rfl; (with_reducible repeat first|refine blN ?_ _|refine bl1 ?_|refine blA ?_ _); exact BK128.out⟩
            have n1_ : Az (Below w.heap.size w (((w30.setCell ⟨gb128, 0, none⟩ (.int .i64 ((rd_T42 l0 x8_1).f0))).setCell ⟨gb128, 1, none⟩ (.int .i64 ((rd_T42 l0 x8_1).f1))).setCell ⟨gb128, 2, none⟩ (.int .i64 ((rd_T42 l0 x8_1).f2)))) := ⟨by repeat (first | (with_reducible first|exact HB.out|apply bA|apply bN|apply bD | refine below_set ?_ GE128.out) | exact HB.out)⟩
            (try clear BK128)
            (try clear HB)
            generalize (((w30.setCell ⟨gb128, 0, none⟩ (.int .i64 ((rd_T42 l0 x8_1).f0))).setCell ⟨gb128, 1, none⟩ (.int .i64 ((rd_T42 l0 x8_1).f1))).setCell ⟨gb128, 2, none⟩ (.int .i64 ((rd_T42 l0 x8_1).f2))) = w32 at n0_ n1_ ⊢
            have BK128 := n0_
            have HB := n1_
            clear n0_ n1_
            have n0_ := Az.mk (bl1 BK128.out)
            have n1_ := Az.mk (bD HB.out)
            clear BK128
            clear HB
            have BK128 := n0_
            have HB := n1_
            clear n0_ n1_
            refine start_ (n := 16) (S := fun w' => w'.cell? ⟨gb128, 0, none⟩ = some (.int .i64 ((rd_T42 l0 x8_1).f0)) ∧ w'.cell? ⟨gb128, 1, none⟩ = some (.int .i64 ((rd_T42 l0 x8_1).f1)) ∧ w'.cell? ⟨gb128, 2, none⟩ = some (.int .i64 ((rd_T42 l0 x8_1).f2))) (ds := []) #[false, false, false, false, false, false, false, false, false, false, false, false, false, false, false, false] (by kernel_rfl) rfl rfl ⟨(blk_cell BK128.out 0).trans rfl, (blk_cell BK128.out 1).trans rfl, (blk_cell BK128.out 2).trans rfl⟩ (fun hHeld => ?_); refine with_tabW spec_FormatLives.tab7 spec_FormatLives.bits7 (fun HT_ HW_ => ?_)
            generalize w32.drew = w33 at BK128 HB hHeld ⊢
            refine pure_ (i := 0) (N := some 17) (v := ?_) (a' := ?_) #[true, false, false, false, false, false, false, false, false, false, false, false, false, false, false, false] rfl rfl (any_of HT_.out (by kernel_rfl)) (fun _ _ _ h => h) (Or.inl ⟨by rfl, ?_⟩) ?_ ?_
            rotate_left
            ·intro w'
             go_simp
             with_reducible rfl
            rotate_left
            ·simp only [Act.put, List.setIfInBounds_toArray, List.set_cons_zero, List.set_cons_succ, i64_w, i32_w]
             rfl
            refine pure_ (i := 1) (N := some 18) (v := ?_) (a' := ?_) #[true, true, false, false, false, false, false, false, false, false, false, false, false, false, false, false] rfl rfl (any_of HT_.out (by kernel_rfl)) (fun _ _ _ h => h) (Or.inl ⟨by rfl, ?_⟩) ?_ ?_
            rotate_left
            ·intro w'
             go_simp
             with_reducible rfl
            rotate_left
            ·simp only [Act.put, List.setIfInBounds_toArray, List.set_cons_zero, List.set_cons_succ, i64_w, i32_w]
             rfl
            refine pure_ (i := 6) (N := some 23) (v := ?_) (a' := ?_) #[true, true, false, false, false, false, true, false, false, false, false, false, false, false, false, false] rfl rfl (any_of HT_.out (by kernel_rfl)) (fun _ _ _ h => h) (Or.inl ⟨by rfl, ?_⟩) ?_ ?_
            rotate_left
            ·intro w'
             go_simp
             with_reducible rfl
            rotate_left
            ·simp only [Act.put, List.setIfInBounds_toArray, List.set_cons_zero, List.set_cons_succ, i64_w, i32_w]
             rfl
            refine pure_ (i := 11) (N := some 28) (v := ?_) (a' := ?_) #[true, true, false, false, false, false, true, false, false, false, false, true, false, false, false, false] rfl rfl (any_of HT_.out (by kernel_rfl)) (fun _ _ _ h => h) (Or.inl ⟨by rfl, ?_⟩) ?_ ?_
            rotate_left
            ·intro w'
             go_simp
             with_reducible rfl
            rotate_left
            ·simp only [Act.put, List.setIfInBounds_toArray, List.set_cons_zero, List.set_cons_succ, i64_w, i32_w]
             rfl
            refine take_ (i := 2) (N := some 19) (v := ?_) (a' := ?_) #[true, true, true, false, false, false, true, false, false, false, false, true, false, false, false, false] rfl rfl (take_ofW HT_.out HW_.out (by kernel_rfl)) (fun _ _ _ h => h) (Or.inl ⟨by rfl, ?_⟩) hHeld ?_ ?_
            rotate_left
            ·rintro w' ⟨s0, s1, s2⟩
             go_simp
             with_reducible rfl
            rotate_left
            ·simp only [Act.put, List.setIfInBounds_toArray, List.set_cons_zero, List.set_cons_succ, i64_w, i32_w]
             rfl
            refine take_ (i := 7) (N := some 24) (v := ?_) (a' := ?_) #[true, true, true, false, false, false, true, true, false, false, false, true, false, false, false, false] rfl rfl (take_ofW HT_.out HW_.out (by kernel_rfl)) (fun _ _ _ h => h) (Or.inl ⟨by rfl, ?_⟩) hHeld ?_ ?_
            rotate_left
            ·rintro w' ⟨s0, s1, s2⟩
             go_simp
             with_reducible rfl
            rotate_left
            ·simp only [Act.put, List.setIfInBounds_toArray, List.set_cons_zero, List.set_cons_succ, i64_w, i32_w]
             rfl
            refine take_ (i := 12) (N := some 29) (v := ?_) (a' := ?_) #[true, true, true, false, false, false, true, true, false, false, false, true, true, false, false, false] rfl rfl (take_ofW HT_.out HW_.out (by kernel_rfl)) (fun _ _ _ h => h) (Or.inl ⟨by rfl, ?_⟩) hHeld ?_ ?_
            rotate_left
            ·rintro w' ⟨s0, s1, s2⟩
             go_simp
             with_reducible rfl
            rotate_left
            ·simp only [Act.put, List.setIfInBounds_toArray, List.set_cons_zero, List.set_cons_succ, i64_w, i32_w]
             rfl
            refine one_ (i := 3) (N := some 20) #[true, true, true, true, false, false, true, true, false, false, false, true, true, false, false, false] rfl rfl (one_of HT_.out (by kernel_rfl)) (by decide) (fun K hK => ?_)
            refine goes_ Tryd.func18 (by kernel_rfl) rfl #[.int .i64 ((rd_T42 l0 x8_1).f0)] (by rfl) rfl rfl (by (try simp only [List.map_toArray, List.map_cons, List.map_nil]); first | done | rfl | (simp only [List.length_drop, List.length_take]; rfl)) ?_
            with_reducible refine (spec_l13Dec.calls k1 ((rd_T42 l0 x8_1).f0) t132 _ A22.out).mono ?_
            rintro e w34 ⟨rfl, hb⟩
            refine ⟨_, rfl, ?_⟩
            have n0_ := Az.mk (blk_below (g := gb128) (o := .cells #[.int .i64 ((rd_T42 l0 x8_1).f0), .int .i64 ((rd_T42 l0 x8_1).f1), .int .i64 ((rd_T42 l0 x8_1).f2)] 42 (0, 0)) (by (with_reducible repeat first|refine blN ?_ _|refine bl1 ?_|refine blA ?_ _); exact BK128.out) hb)
            have n1_ := Az.mk (bS (by repeat (first | (with_reducible first|exact HB.out|apply bA|apply bN|apply bD | refine below_set ?_ GE128.out) | exact HB.out)) hb)
            clear BK128
            clear HB
            have BK128 := n0_
            have HB := n1_
            clear n0_ n1_
            (try clear hb)
            (try clear hb2)
            (try clear hk)
            (try clear hi)
            refine hK.out _ _ ⟨(blk_cell BK128.out 0).trans rfl, (blk_cell BK128.out 1).trans rfl, (blk_cell BK128.out 2).trans rfl⟩ (fun hHeld => ?_)
            clear hK K
            refine norm_ (a' := ?_) ?_ ?_
            rotate_left
            ·show Act.put _ (some 20) _ = _
             simp only [Act.put, List.setIfInBounds_toArray, List.set_cons_zero, List.set_cons_succ, i64_w, i32_w]
             rfl
            refine pure_ (i := 4) (N := some 21) (v := ?_) (a' := ?_) #[true, true, true, true, true, false, true, true, false, false, false, true, true, false, false, false] rfl rfl (any_of HT_.out (by kernel_rfl)) (fun _ _ _ h => h) (Or.inl ⟨by rfl, ?_⟩) ?_ ?_
            rotate_left
            ·intro w'
             go_simp
             with_reducible rfl
            rotate_left
            ·simp only [Act.put, List.setIfInBounds_toArray, List.set_cons_zero, List.set_cons_succ, i64_w, i32_w]
             rfl
            refine pure_ (i := 5) (N := some 22) (v := ?_) (a' := ?_) #[true, true, true, true, true, true, true, true, false, false, false, true, true, false, false, false] rfl rfl (any_of HT_.out (by kernel_rfl)) (fun _ _ _ h => h) (Or.inl ⟨by rfl, ?_⟩) ?_ ?_
            rotate_left
            ·intro w'
             go_simp
             with_reducible rfl
            rotate_left
            ·simp only [Act.put, List.setIfInBounds_toArray, List.set_cons_zero, List.set_cons_succ, i64_w, i32_w]
             rfl
            refine one_ (i := 8) (N := some 25) #[true, true, true, true, true, true, true, true, true, false, false, true, true, false, false, false] rfl rfl (one_of HT_.out (by kernel_rfl)) (by decide) (fun K hK => ?_)
            refine goes_ Tryd.func18 (by kernel_rfl) rfl #[.int .i64 ((rd_T42 l0 x8_1).f1)] (by rfl) rfl rfl (by (try simp only [List.map_toArray, List.map_cons, List.map_nil]); first | done | rfl | (simp only [List.length_drop, List.length_take]; rfl)) ?_
            with_reducible refine (spec_l13Dec.calls k1 ((rd_T42 l0 x8_1).f1) t133 _ A25.out).mono ?_
            rintro e w35 ⟨rfl, hb⟩
            refine ⟨_, rfl, ?_⟩
            have n0_ := Az.mk (blk_below (g := gb128) (o := .cells #[.int .i64 ((rd_T42 l0 x8_1).f0), .int .i64 ((rd_T42 l0 x8_1).f1), .int .i64 ((rd_T42 l0 x8_1).f2)] 42 (0, 0)) (by (with_reducible repeat first|refine blN ?_ _|refine bl1 ?_|refine blA ?_ _); exact BK128.out) hb)
            have n1_ := Az.mk (bS (by repeat (first | (with_reducible first|exact HB.out|apply bA|apply bN|apply bD | refine below_set ?_ GE128.out) | exact HB.out)) hb)
            clear BK128
            clear HB
            have BK128 := n0_
            have HB := n1_
            clear n0_ n1_
            (try clear hb)
            (try clear hb2)
            (try clear hk)
            (try clear hi)
            refine hK.out _ _ ⟨(blk_cell BK128.out 0).trans rfl, (blk_cell BK128.out 1).trans rfl, (blk_cell BK128.out 2).trans rfl⟩ (fun hHeld => ?_)
            clear hK K
            refine norm_ (a' := ?_) ?_ ?_
            rotate_left
            ·show Act.put _ (some 25) _ = _
             simp only [Act.put, List.setIfInBounds_toArray, List.set_cons_zero, List.set_cons_succ, i64_w, i32_w]
             rfl
            refine pure_ (i := 9) (N := some 26) (v := ?_) (a' := ?_) #[true, true, true, true, true, true, true, true, true, true, false, true, true, false, false, false] rfl rfl (any_of HT_.out (by kernel_rfl)) (fun _ _ _ h => h) (Or.inl ⟨by rfl, ?_⟩) ?_ ?_
            rotate_left
            ·intro w'
             go_simp
             with_reducible rfl
            rotate_left
            ·simp only [Act.put, List.setIfInBounds_toArray, List.set_cons_zero, List.set_cons_succ, i64_w, i32_w]
             rfl
            refine pure_ (i := 10) (N := some 27) (v := ?_) (a' := ?_) #[true, true, true, true, true, true, true, true, true, true, true, true, true, false, false, false] rfl rfl (any_of HT_.out (by kernel_rfl)) (fun _ _ _ h => h) (Or.inl ⟨by rfl, ?_⟩) ?_ ?_
            rotate_left
            ·intro w'
             go_simp
             with_reducible rfl
            rotate_left
            ·simp only [Act.put, List.setIfInBounds_toArray, List.set_cons_zero, List.set_cons_succ, i64_w, i32_w]
             rfl
            refine one_ (i := 13) (N := some 30) #[true, true, true, true, true, true, true, true, true, true, true, true, true, true, false, false] rfl rfl (one_of HT_.out (by kernel_rfl)) (by decide) (fun K hK => ?_)
            refine goes_ Tryd.func18 (by kernel_rfl) rfl #[.int .i64 ((rd_T42 l0 x8_1).f2)] (by rfl) rfl rfl (by (try simp only [List.map_toArray, List.map_cons, List.map_nil]); first | done | rfl | (simp only [List.length_drop, List.length_take]; rfl)) ?_
            with_reducible refine (spec_l13Dec.calls k1 ((rd_T42 l0 x8_1).f2) t134 _ A28.out).mono ?_
            rintro e w36 ⟨rfl, hb⟩
            refine ⟨_, rfl, ?_⟩
            have n0_ := Az.mk (blk_below (g := gb128) (o := .cells #[.int .i64 ((rd_T42 l0 x8_1).f0), .int .i64 ((rd_T42 l0 x8_1).f1), .int .i64 ((rd_T42 l0 x8_1).f2)] 42 (0, 0)) (by (with_reducible repeat first|refine blN ?_ _|refine bl1 ?_|refine blA ?_ _); exact BK128.out) hb)
            have n1_ := Az.mk (bS (by repeat (first | (with_reducible first|exact HB.out|apply bA|apply bN|apply bD | refine below_set ?_ GE128.out) | exact HB.out)) hb)
            clear BK128
            clear HB
            have BK128 := n0_
            have HB := n1_
            clear n0_ n1_
            (try clear hb)
            (try clear hb2)
            (try clear hk)
            (try clear hi)
            refine hK.out _ _ ⟨(blk_cell BK128.out 0).trans rfl, (blk_cell BK128.out 1).trans rfl, (blk_cell BK128.out 2).trans rfl⟩ (fun hHeld => ?_)
            clear hK K
            refine norm_ (a' := ?_) ?_ ?_
            rotate_left
            ·show Act.put _ (some 30) _ = _
             simp only [Act.put, List.setIfInBounds_toArray, List.set_cons_zero, List.set_cons_succ, i64_w, i32_w]
             rfl
            refine pure_ (i := 14) (N := some 31) (v := ?_) (a' := ?_) #[true, true, true, true, true, true, true, true, true, true, true, true, true, true, true, false] rfl rfl (any_of HT_.out (by kernel_rfl)) (fun _ _ _ h => h) (Or.inl ⟨by rfl, ?_⟩) ?_ ?_
            rotate_left
            ·intro w'
             go_simp
             with_reducible rfl
            rotate_left
            ·simp only [Act.put, List.setIfInBounds_toArray, List.set_cons_zero, List.set_cons_succ, i64_w, i32_w]
             rfl
            refine pure_ (i := 15) (N := some 3) (v := ?_) (a' := ?_) #[true, true, true, true, true, true, true, true, true, true, true, true, true, true, true, true] rfl rfl (any_of HT_.out (by kernel_rfl)) (fun _ _ _ h => h) (Or.inl ⟨by rfl, ?_⟩) ?_ ?_
            rotate_left
            ·intro w'
             go_simp
             with_reducible rfl
            rotate_left
            ·simp only [Act.put, List.setIfInBounds_toArray, List.set_cons_zero, List.set_cons_succ, i64_w, i32_w]
             rfl
            refine done_ (done_of HT_.out (by kernel_rfl)) ?_
            try go_wp2
            go_roundg k1
            case measure => have := HK1.out; omega
            case rel => exact ⟨(((((x3_1 ++ t132) ++ (⟨#[47]⟩ : ByteArray)) ++ t133) ++ (⟨#[47]⟩ : ByteArray)) ++ t134), (wrap64 (x8_1 + 1)), (by first | rfl | (simp; done) | (simp [*]; done)), (by first | rfl | (simp; done) | (simp [*]; done)), H', ⟨by have := HK1.out; omega⟩, ⟨by repeat (first | (with_reducible first|exact HB.out|apply bA|apply bN|apply bD | refine below_set ?_ GE128.out) | exact HB.out)⟩⟩
           ·rw [if_neg c29] at H
            exact absurd H (by simp)
          ·rw [if_neg c27] at H
           exact absurd H (by simp)
         ·rw [if_neg c26] at H
          exact absurd H (by simp)
        ·rw [if_neg c24] at H
         exact absurd H (by simp)
       ·rw [if_neg c23] at H
        exact absurd H (by simp)
     ·rw [if_neg c4] at H
      exact absurd H (by simp)
    ·rw [if_neg c3] at H
     exact absurd H (by simp)
   ·rw [if_neg c2] at H
    have c2b0 : decide (x8_1 < (l0.length : Int)) = false := decide_eq_false c2
    clear c2
    by_cases c37 : x3_1.toList = ([] : List UInt8)
    ·rw [if_pos c37] at H
     have c37b0 : (x3_1.toList == ([] : List UInt8)) = true := beq_iff_eq.mpr c37
     have c37b1 : (x3_1.toList != ([] : List UInt8)) = false := bne_eq_false_iff_eq.mpr c37
     clear c37
     obtain rfl := Option.some.inj H
     go_wp2
     go_ret
     exact ⟨by first | rfl | (simp [errW_none, errW_some] <;> rfl) | (simp [*, errW_none, errW_some] <;> rfl), by repeat (first | (with_reducible first|exact HB.out|apply bA|apply bN|apply bD) | exact HB.out)⟩
    ·rw [if_neg c37] at H
     have c37b0 : (x3_1.toList == ([] : List UInt8)) = false := beq_eq_false_iff_ne.mpr c37
     have c37b1 : (x3_1.toList != ([] : List UInt8)) = true := bne_iff_ne.mpr c37
     obtain rfl := Option.some.inj H
     go_wp2
     go_ret
     exact ⟨by first | rfl | (simp [errW_none, errW_some] <;> rfl) | (simp [*, errW_none, errW_some] <;> rfl), by repeat (first | (with_reducible first|exact HB.out|apply bA|apply bN|apply bD) | exact HB.out)⟩
end Go.Proofs.YtojhdfdhfajjjaaDoor.Pr
