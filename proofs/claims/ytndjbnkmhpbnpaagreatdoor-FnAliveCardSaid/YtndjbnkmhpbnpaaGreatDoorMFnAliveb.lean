/- MFnAliveb: texts of this proof, joined. -/
import Derived.Test.YtndjbnkmhpbnpaaGreatDoorMFnAlivea
import Derived.Test.YtndjbnkmhpbnpaaGreatDoorProg
import Derived.Below
import Derived.Deep.Draws
import Derived.Deep.AppendLies
import Derived.Maps.AppendAt
import Derived.OwnWalk
import Derived.Laws.BytesArg
import Derived.Laws.MakeOwn
import Derived.Laws.OwnMore
import Derived.Deep.OwnRows
import Derived.Tactics
import Derived.Lib.ConvBytes
import Derived.Laws.Slices
import Derived.WalkKit
import Derived.KernelRfl
import Derived.RowKit3
import Derived.Deep.LoopGhost
import Derived.Deep.QuietTactic
import Derived.BigQuiet
import Derived.WideLaws
import Derived.Deep.DeepCutAuto
import Derived.Deep.CutBlock
import Derived.Deep.RegionHeld3
import Derived.Laws.Rows
import Derived.Lib.AppendStr
import Derived.ArgAppend
import Derived.Laws.IdiomCopy
import Derived.OrdersHeld
import Derived.Laws.BitsLemmas
import Derived.RowKit
namespace Go.Proofs.YtndjbnkmhpbnpaaGreatDoor.Pr
open Go.RowKit Go.Proofs.YtndjbnkmhpbnpaaGreatDoorW.PrintWords Go.Proofs.YtndjbnkmhpbnpaaGreatDoorW.PrintLast Go.Proofs.YtndjbnkmhpbnpaaGreatDoorW.PrintMore
attribute [local go_sem] max2_int min2_int max_two min_two max_three min_three max_four min_four   -- for this text's walks alone
set_option linter.unusedVariables false
set_option linter.unusedSimpArgs false
def errW : Option Int → Value
 | none => .nilIface
 | some c => .iface 0 (.int .i64 c)
theorem errW_none : errW none = .nilIface := rfl
theorem errW_some (c : Int) : errW (some c) = .iface 0 (.int .i64 c) := rfl
theorem info3 : (Tryz.prog.info? 3).map (fun i => (i.zero, i.size, i.bytes)) = some (some (.int .i64 0), 1, 8) := by kernel_rfl
theorem info9 : (Tryz.prog.info? 9).map (fun i => (i.zero, i.size, i.bytes)) = some (some (.string ⟨#[]⟩), 1, 16) := by kernel_rfl
theorem info31 : (Tryz.prog.info? 31).map (fun i => (i.zero, i.size, i.bytes)) = some (some (.agg #[(.int .i64 0), (.int .i64 0), (.int .i64 0)]), 3, 24) := by kernel_rfl
theorem info55 : (Tryz.prog.info? 55).map (fun i => (i.zero, i.size, i.bytes)) = some (some (.agg #[(.string ⟨#[]⟩), (.int .i64 0)]), 2, 24) := by kernel_rfl
theorem info63 : (Tryz.prog.info? 63).map (fun i => (i.zero, i.size, i.bytes)) = some (some (.agg #[(.int .u8 0), (.int .i64 0)]), 2, 16) := by kernel_rfl
-- the values' own types
structure S55 where
 f0 : ByteArray
 f1 : Int
def z55 : S55 := ⟨(⟨#[]⟩ : ByteArray), (0 : Int)⟩
def k55 : Kd S55 := Kd.iso (Kd.pair Kd.string (Kd.int .i64)) (fun x : S55 => (x.f0, x.f1))
theorem k55_open {w : World} {x : S55} {cs : List Value} (h : k55.K w x cs) : cs = [.string x.f0, .int .i64 x.f1] := by
 obtain ⟨_, _, rfl, rfl, rfl⟩ := h
 exact rfl
theorem k55_mkM (w : World) (base : Nat) (ok : Nat → Prop) (x : S55)  : k55.M w base ok x [.string x.f0, .int .i64 x.f1] := ⟨[.string x.f0], [.int .i64 x.f1], rfl, rfl, rfl⟩
def rd_T55 (xs : List S55) (i : Int) : S55 := xs.getD i.toNat z55
theorem at_T55 {w : World} {A : Option Addr} {n : Nat} {xs : List S55} (h : Kd.C k55 w A n xs) (i : Int) (h0 : 0 ≤ i) (h1 : i < n) : ∃ ad , A = some ad ∧ w.cell? (ad.add (i.toNat * 2)) = some (.string (rd_T55 xs i).f0) ∧ w.cell? ⟨(ad.add (i.toNat * 2)).block, (ad.add (i.toNat * 2)).off + 1, none⟩ = some (.int .i64 (rd_T55 xs i).f1) := by
 obtain ⟨ad, c, e, _, hK, hc0⟩ := Kd.C_get h z55 i h0 h1
 have hc : ∀ j u, c[j]? = some u → w.cell? (ad.add (i.toNat * 2 + j)) = some u := hc0
 obtain rfl := k55_open hK
 exact ⟨ad, e, hc 0 _ rfl, by rw [← add_field _ _ 1 (by omega)]; exact hc 1 _ rfl⟩
structure S31 where
 f0 : Int
 f1 : Int
 f2 : Int
def z31 : S31 := ⟨(0 : Int), (0 : Int), (0 : Int)⟩
def k31 : Kd S31 := Kd.iso (Kd.pair (Kd.int .i64) (Kd.pair (Kd.int .i64) (Kd.int .i64))) (fun x : S31 => (x.f0, x.f1, x.f2))
theorem k31_open {w : World} {x : S31} {cs : List Value} (h : k31.K w x cs) : cs = [.int .i64 x.f0, .int .i64 x.f1, .int .i64 x.f2] := by
 obtain ⟨_, _, rfl, rfl, ⟨_, _, rfl, rfl, rfl⟩⟩ := h
 exact rfl
theorem k31_openM {w : World} {base : Nat} {ok : Nat → Prop} {x : S31} {cs : List Value} (h : k31.M w base ok x cs) : cs = [.int .i64 x.f0, .int .i64 x.f1, .int .i64 x.f2] := by
 obtain ⟨_, _, rfl, rfl, ⟨_, _, rfl, rfl, rfl⟩⟩ := h
 exact rfl
theorem k31_mkM (w : World) (base : Nat) (ok : Nat → Prop) (x : S31)  : k31.M w base ok x [.int .i64 x.f0, .int .i64 x.f1, .int .i64 x.f2] := ⟨[.int .i64 x.f0], [.int .i64 x.f1, .int .i64 x.f2], rfl, rfl, ⟨[.int .i64 x.f1], [.int .i64 x.f2], rfl, rfl, rfl⟩⟩
def rd_T31 (xs : List S31) (i : Int) : S31 := xs.getD i.toNat z31
theorem at_T31 {w : World} {A : Option Addr} {n : Nat} {xs : List S31} (h : Kd.C k31 w A n xs) (i : Int) (h0 : 0 ≤ i) (h1 : i < n) : ∃ ad , A = some ad ∧ w.cell? (ad.add (i.toNat * 3)) = some (.int .i64 (rd_T31 xs i).f0) ∧ w.cell? ⟨(ad.add (i.toNat * 3)).block, (ad.add (i.toNat * 3)).off + 1, none⟩ = some (.int .i64 (rd_T31 xs i).f1) ∧ w.cell? ⟨(ad.add (i.toNat * 3)).block, (ad.add (i.toNat * 3)).off + 2, none⟩ = some (.int .i64 (rd_T31 xs i).f2) := by
 obtain ⟨ad, c, e, _, hK, hc0⟩ := Kd.C_get h z31 i h0 h1
 have hc : ∀ j u, c[j]? = some u → w.cell? (ad.add (i.toNat * 3 + j)) = some u := hc0
 obtain rfl := k31_open hK
 exact ⟨ad, e, hc 0 _ rfl, by rw [← add_field _ _ 1 (by omega)]; exact hc 1 _ rfl, by rw [← add_field _ _ 2 (by omega)]; exact hc 2 _ rfl⟩
structure S63 where
 f0 : Int
 f1 : Int
def z63 : S63 := ⟨(0 : Int), (0 : Int)⟩
def k63 : Kd S63 := Kd.iso (Kd.pair (Kd.int .u8) (Kd.int .i64)) (fun x : S63 => (x.f0, x.f1))
theorem k63_open {w : World} {x : S63} {cs : List Value} (h : k63.K w x cs) : cs = [.int .u8 x.f0, .int .i64 x.f1] := by
 obtain ⟨_, _, rfl, rfl, rfl⟩ := h
 exact rfl
theorem k63_mkM (w : World) (base : Nat) (ok : Nat → Prop) (x : S63)  : k63.M w base ok x [.int .u8 x.f0, .int .i64 x.f1] := ⟨[.int .u8 x.f0], [.int .i64 x.f1], rfl, rfl, rfl⟩
def rd_T63 (xs : List S63) (i : Int) : S63 := xs.getD i.toNat z63
theorem at_T63 {w : World} {A : Option Addr} {n : Nat} {xs : List S63} (h : Kd.C k63 w A n xs) (i : Int) (h0 : 0 ≤ i) (h1 : i < n) : ∃ ad , A = some ad ∧ w.cell? (ad.add (i.toNat * 2)) = some (.int .u8 (rd_T63 xs i).f0) ∧ w.cell? ⟨(ad.add (i.toNat * 2)).block, (ad.add (i.toNat * 2)).off + 1, none⟩ = some (.int .i64 (rd_T63 xs i).f1) := by
 obtain ⟨ad, c, e, _, hK, hc0⟩ := Kd.C_get h z63 i h0 h1
 have hc : ∀ j u, c[j]? = some u → w.cell? (ad.add (i.toNat * 2 + j)) = some u := hc0
 obtain rfl := k63_open hK
 exact ⟨ad, e, hc 0 _ rfl, by rw [← add_field _ _ 1 (by omega)]; exact hc 1 _ rfl⟩
end Go.Proofs.YtndjbnkmhpbnpaaGreatDoor.Pr
namespace Go.Proofs.YtndjbnkmhpbnpaaGreatDoor.Pr
open Go.RowKit Go.Proofs.YtndjbnkmhpbnpaaGreatDoorW.PrintWords Go.Proofs.YtndjbnkmhpbnpaaGreatDoorW.PrintLast Go.Proofs.YtndjbnkmhpbnpaaGreatDoorW.PrintMore
theorem wrap_small {n : Int} (h1 : -9223372036854775808 ≤ n) (h2 : n < 9223372036854775808) : wrap64 n = n := by
 unfold wrap64
 omega
theorem wrap_up {i : Nat} (h : i ≤ 1000000000) : wrap64 ((i : Int) + 1) = ((i + 1 : Nat) : Int) := by
 rw [wrap_small (by omega) (by omega)]; rfl
theorem rd48_at {xs : List S31} {i : Nat} (h : i < xs.length) : rd_T31 xs (i : Int) = xs[i] := by
 unfold rd_T31
 rw [List.getD_eq_getElem?_getD, Int.toNat_natCast, List.getElem?_eq_getElem h]
 rfl
theorem rd_at {xs : List Int} {i : Nat} (h : i < xs.length) : rd xs (i : Int) = xs[i] := by
 unfold rd
 rw [List.getD_eq_getElem?_getD, Int.toNat_natCast, List.getElem?_eq_getElem h]
 rfl
end Go.Proofs.YtndjbnkmhpbnpaaGreatDoor.Pr
namespace Go.Proofs.YtndjbnkmhpbnpaaGreatDoor.Pr
open Go.RowKit Go.Proofs.YtndjbnkmhpbnpaaGreatDoorW.PrintWords Go.Proofs.YtndjbnkmhpbnpaaGreatDoorW.PrintLast Go.Proofs.YtndjbnkmhpbnpaaGreatDoorW.PrintMore
attribute [local go_sem] max2_int min2_int max_two min_two max_three min_three max_four min_four   -- for this text's walks alone
set_option linter.unusedVariables false
set_option linter.unusedSimpArgs false
def spec_l13Cut.l0 : Nat → ByteArray → Int → List ByteArray → Int → Int → Option (List ByteArray)
 | 0, _, _, _, _, _ => none
 | k + 1, x0, x1, x5, x6, x7 => if x7 ≤ (x0.size : Int) then (if x7 = (x0.size : Int) then (if 0 ≤ x6 then (if x6 ≤ x7 then (if x5.length < 8796093022208 then (spec_l13Cut.l0 k x0 x1 (x5 ++ [x0.extract (x6 : Int).toNat (x7 : Int).toNat]) (wrap64 (x7 + 1)) (wrap64 (x7 + 1))) else (none)) else (none)) else (none)) else (if 0 ≤ x7 then (if x7 < (x0.size : Int) then (if (bt x0 x7) = x1 then (if 0 ≤ x6 then (if x6 ≤ x7 then (if x5.length < 8796093022208 then (spec_l13Cut.l0 k x0 x1 (x5 ++ [x0.extract (x6 : Int).toNat (x7 : Int).toNat]) (wrap64 (x7 + 1)) (wrap64 (x7 + 1))) else (none)) else (none)) else (none)) else (spec_l13Cut.l0 k x0 x1 x5 x6 (wrap64 (x7 + 1)))) else (none)) else (none))) else (some x5)
def spec_l13Cut.f (k : Nat) (a0 : ByteArray) (a1 : Int) : Option (List ByteArray) := spec_l13Cut.l0 k a0 a1 (([] : List ByteArray)) 0 0
set_option maxHeartbeats 8000000 in
set_option maxRecDepth 100000 in
theorem spec_l13Cut.calls (k : Nat) (a0 : ByteArray) (a1 : Int) (r : List ByteArray) (w : World) (h : spec_l13Cut.f k a0 a1 = some r) :
  Calls Tryz.prog 77 #[.string a0, .int .u8 a1] w fun e w' => ∃ v0_ : Value, e = .returned (v0_) ∧ Kd.R Kd.string 9 w' w.heap.size (fun _ => True) v0_ r ∧ Below w.heap.size w w' := by
 have HB := Az.mk (Below.refl w.heap.size w)
 have H : (spec_l13Cut.l0 k a0 a1 (([] : List ByteArray)) 0 0) = some r := h
 clear h
 obtain ⟨y138, hy138⟩ : ∃ y_ : List ByteArray, y_ = (([] : List ByteArray)) := ⟨_, rfl⟩
 replace H : (spec_l13Cut.l0 k a0 a1 y138 0 0) = some r := by first | (rw [hy138]; with_reducible exact H) | (have H2_ := (Option.bind_some _ _).symm.trans H; rw [hy138]; with_reducible exact H2_) | (have H2_ := (Option.bind_some _ _).symm.trans H; with_reducible exact H2_) | with_reducible exact H | (rw [hy138]; exact H) | exact H
 have Ny138 := Az.mk hy138
 clear hy138
 have H' := Az.mk H
 clear H
 go_enter Tryz.func77, Tryz.ntmps77
 go_wp2_with (first | ((with_reducible refine gate_dst (N := 8) rfl ?_); refine Kd.R_lit Kd.string _ 9 ?hg (N := 8) ?hd (xs := ([] : List ByteArray)) (inner := []) (ok := fun _ => True) (okp := fun _ => True) ?hr ?hp (fun _ hk => hk) trivial (Below.refl _ _) (Nat.le_refl _) (by simp) ?_; (case hd => rfl); (case hg => rfl); (case hr => first | (go_simp; done) | (go_simp; rfl)); (case hp => exact (Reps.none _ _)); intro v139 w3 ho4 hb hg_ hnew_; clear hg_ hnew_; (first | rw [← Ny138.out] at ho4 | (simp only [Int.reduceToNat] at ho4; rw [← Ny138.out] at ho4)); have n0_ := Az.mk (Kd.R_lower ho4 (bZ (by repeat first|exact HB.out|apply bA|apply bN|apply bD))); have n1_ := Az.mk (bS (by repeat first|exact HB.out|apply bA|apply bN|apply bD) hb); clear HB; have HO140 := n0_; have HB := n1_; clear n0_ n1_; clear hb ho4))
 go_loopg [5, 6, 7] k (fun kq v5 v6 v7 w' => ∃ (x5_1 : List ByteArray) (x6_1 : Int) (x7_1 : Int), v6 = .int .i64 x6_1 ∧ v7 = .int .i64 x7_1 ∧ Az (spec_l13Cut.l0 kq a0 a1 x5_1 x6_1 x7_1 = some r) ∧ Az (kq ≤ k) ∧ Az (Kd.R Kd.string 9 w' w.heap.size (fun _ => True) v5 x5_1) ∧ Az (Below w.heap.size w w'))
 case atStart => exact ⟨(y138), (0), (0), (by first | rfl | (simp; done) | (simp [*]; done)), (by first | rfl | (simp; done) | (simp [*]; done)), H', ⟨Nat.le_refl _⟩, ⟨by (with_reducible repeat first|apply Kd.Ra|apply Kd.Rn|apply Kd.Rw); exact HO140.out⟩, ⟨by repeat (first | (with_reducible first|exact HB.out|apply bA|apply bN|apply bD) | exact HB.out)⟩⟩
 case round =>
  clear H'
  try clear p2
  obtain ⟨x5_1, x6_1, x7_1, rfl, rfl, HA, HK1, HO_5, HB⟩ := hrel
  cases gk with
  | zero => exact absurd HA.out (by simp [spec_l13Cut.l0])
  | succ k1 =>
   have H := HA.out
   clear HA
   simp only [spec_l13Cut.l0] at H
   by_cases c5 : x7_1 ≤ (a0.size : Int)
   ·rw [if_pos c5] at H
    have c5b0 : decide (x7_1 ≤ (a0.size : Int)) = true := decide_eq_true c5
    clear c5
    by_cases c6 : x7_1 = (a0.size : Int)
    ·rw [if_pos c6] at H
     have c6b0 : (x7_1 == (a0.size : Int)) = true := beq_iff_eq.mpr c6
     have c6b1 : (x7_1 != (a0.size : Int)) = false := bne_eq_false_iff_eq.mpr c6
     clear c6
     by_cases c7 : 0 ≤ x6_1
     ·rw [if_pos c7] at H
      have c7b0 := eq_true c7
      have c7b1 : decide (0 ≤ x6_1) = true := decide_eq_true c7
      clear c7
      by_cases c8 : x6_1 ≤ x7_1
      ·rw [if_pos c8] at H
       have c8b0 := eq_true c8
       have c8b1 : decide (x6_1 ≤ x7_1) = true := decide_eq_true c8
       clear c8
       have c9b0 := eq_true (of_decide_eq_true (by first|(with_reducible assumption)|assumption) : x7_1 ≤ (a0.size : Int))
       by_cases c10 : x5_1.length < 8796093022208
       ·rw [if_pos c10] at H
        have LMc10 := Az.mk c10
        clear c10
        obtain ⟨y141, hy141⟩ : ∃ y_ : List ByteArray, y_ = (x5_1 ++ [a0.extract (x6_1 : Int).toNat (x7_1 : Int).toNat]) := ⟨_, rfl⟩
        replace H : (spec_l13Cut.l0 k1 a0 a1 y141 (wrap64 (x7_1 + 1)) (wrap64 (x7_1 + 1))) = some r := by first | (rw [hy141]; with_reducible exact H) | (have H2_ := (Option.bind_some _ _).symm.trans H; rw [hy141]; with_reducible exact H2_) | (have H2_ := (Option.bind_some _ _).symm.trans H; with_reducible exact H2_) | with_reducible exact H | (rw [hy141]; exact H) | exact H
        have Ny141 := Az.mk hy141
        clear hy141
        have H' := Az.mk H
        clear H
        go_wp2_with (first | ((with_reducible refine gate_builtin (b := .append) (xs := #[.tmp 26, .tmp 31]) rfl ?_); at_builtin; refine Kd.R_append Kd.string (w0 := w) w.heap.size rfl (.tmp 26) (.tmp 31) 39 9 (.string ⟨#[]⟩) 16 rfl Tryz.underlying39 info9 rfl (by decide) (by omega) u5 x5_1 (a0.extract (x6_1 : Int).toNat (x7_1 : Int).toNat) [.string (a0.extract (x6_1 : Int).toNat (x7_1 : Int).toNat)] (fun _ => True) (fun _ => False) rfl rfl ?aP (fun _ hk => hk.elim) ?aF ?aO ?aB ?aS ?aL ?_; (case aP => exact rfl); (case aB => exact (by repeat first|exact HB.out|apply bA|apply bN|apply bD)); (case aF => exact (fun _ _ => trivial)); (case aO => exact (by (with_reducible repeat first|apply Kd.Ra|apply Kd.Rn|apply Kd.Rw); exact HO_5.out)); (case aS => exact (bZ (by repeat first|exact HB.out|apply bA|apply bN|apply bD))); (case aL => have := LMc10.out; omega); intro v142 w11 ho hb hg hat; rw [← Ny141.out] at ho; have n0_ := Az.mk (hb); have n1_ := Az.mk (ho); clear HB; clear HO_5; have HB := n0_; have HO143 := n1_; clear n0_ n1_; clear ho hb hg hat))
        go_roundg k1
        case measure => have := HK1.out; omega
        case rel => exact ⟨(y141), (wrap64 (x7_1 + 1)), (wrap64 (x7_1 + 1)), (by first | rfl | (simp; done) | (simp [*]; done)), (by first | rfl | (simp; done) | (simp [*]; done)), H', ⟨by have := HK1.out; omega⟩, ⟨by (with_reducible repeat first|apply Kd.Ra|apply Kd.Rn|apply Kd.Rw); exact HO143.out⟩, ⟨by repeat (first | (with_reducible first|exact HB.out|apply bA|apply bN|apply bD) | exact HB.out)⟩⟩
       ·rw [if_neg c10] at H
        exact absurd H (by simp)
      ·rw [if_neg c8] at H
       exact absurd H (by simp)
     ·rw [if_neg c7] at H
      exact absurd H (by simp)
    ·rw [if_neg c6] at H
     have c6b0 : (x7_1 == (a0.size : Int)) = false := beq_eq_false_iff_ne.mpr c6
     have c6b1 : (x7_1 != (a0.size : Int)) = true := bne_iff_ne.mpr c6
     by_cases c12 : 0 ≤ x7_1
     ·rw [if_pos c12] at H
      have c12b0 : decide (0 ≤ x7_1) = true := decide_eq_true c12
      clear c12
      by_cases c13 : x7_1 < (a0.size : Int)
      ·rw [if_pos c13] at H
       have c13b0 : decide (x7_1 < (a0.size : Int)) = true := decide_eq_true c13
       clear c13
       by_cases c15 : (bt a0 x7_1) = a1
       ·rw [if_pos c15] at H
        have c15b0 : ((bt a0 x7_1) == a1) = true := beq_iff_eq.mpr c15
        have c15b1 : ((bt a0 x7_1) != a1) = false := bne_eq_false_iff_eq.mpr c15
        clear c15
        by_cases c16 : 0 ≤ x6_1
        ·rw [if_pos c16] at H
         have c16b0 := eq_true c16
         have c16b1 : decide (0 ≤ x6_1) = true := decide_eq_true c16
         clear c16
         by_cases c17 : x6_1 ≤ x7_1
         ·rw [if_pos c17] at H
          have c17b0 := eq_true c17
          have c17b1 : decide (x6_1 ≤ x7_1) = true := decide_eq_true c17
          clear c17
          have c18b0 := eq_true (of_decide_eq_true (by first|(with_reducible assumption)|assumption) : x7_1 ≤ (a0.size : Int))
          by_cases c19 : x5_1.length < 8796093022208
          ·rw [if_pos c19] at H
           have LMc19 := Az.mk c19
           clear c19
           obtain ⟨y144, hy144⟩ : ∃ y_ : List ByteArray, y_ = (x5_1 ++ [a0.extract (x6_1 : Int).toNat (x7_1 : Int).toNat]) := ⟨_, rfl⟩
           replace H : (spec_l13Cut.l0 k1 a0 a1 y144 (wrap64 (x7_1 + 1)) (wrap64 (x7_1 + 1))) = some r := by first | (rw [hy144]; with_reducible exact H) | (have H2_ := (Option.bind_some _ _).symm.trans H; rw [hy144]; with_reducible exact H2_) | (have H2_ := (Option.bind_some _ _).symm.trans H; with_reducible exact H2_) | with_reducible exact H | (rw [hy144]; exact H) | exact H
           have Ny144 := Az.mk hy144
           clear hy144
           have H' := Az.mk H
           clear H
           have p14 : 0 ≤ (x7_1 : Int) := of_decide_eq_true (by first|(with_reducible assumption)|assumption)
           have q14 : x7_1 < (a0.size : Int) := of_decide_eq_true (by first|(with_reducible assumption)|assumption)
           have hx14 := bt_at a0 x7_1
           replace p14 := eq_true p14
           replace q14 := eq_true q14
           go_wp2_with (first | ((with_reducible refine gate_builtin (b := .append) (xs := #[.tmp 26, .tmp 31]) rfl ?_); at_builtin; refine Kd.R_append Kd.string (w0 := w) w.heap.size rfl (.tmp 26) (.tmp 31) 39 9 (.string ⟨#[]⟩) 16 rfl Tryz.underlying39 info9 rfl (by decide) (by omega) u5 x5_1 (a0.extract (x6_1 : Int).toNat (x7_1 : Int).toNat) [.string (a0.extract (x6_1 : Int).toNat (x7_1 : Int).toNat)] (fun _ => True) (fun _ => False) rfl rfl ?aP (fun _ hk => hk.elim) ?aF ?aO ?aB ?aS ?aL ?_; (case aP => exact rfl); (case aB => exact (by repeat first|exact HB.out|apply bA|apply bN|apply bD)); (case aF => exact (fun _ _ => trivial)); (case aO => exact (by (with_reducible repeat first|apply Kd.Ra|apply Kd.Rn|apply Kd.Rw); exact HO_5.out)); (case aS => exact (bZ (by repeat first|exact HB.out|apply bA|apply bN|apply bD))); (case aL => have := LMc19.out; omega); intro v145 w20 ho hb hg hat; rw [← Ny144.out] at ho; have n0_ := Az.mk (hb); have n1_ := Az.mk (ho); clear HB; clear HO_5; have HB := n0_; have HO146 := n1_; clear n0_ n1_; clear ho hb hg hat))
           go_roundg k1
           case measure => have := HK1.out; omega
           case rel => exact ⟨(y144), (wrap64 (x7_1 + 1)), (wrap64 (x7_1 + 1)), (by first | rfl | (simp; done) | (simp [*]; done)), (by first | rfl | (simp; done) | (simp [*]; done)), H', ⟨by have := HK1.out; omega⟩, ⟨by (with_reducible repeat first|apply Kd.Ra|apply Kd.Rn|apply Kd.Rw); exact HO146.out⟩, ⟨by repeat (first | (with_reducible first|exact HB.out|apply bA|apply bN|apply bD) | exact HB.out)⟩⟩
          ·rw [if_neg c19] at H
           exact absurd H (by simp)
         ·rw [if_neg c17] at H
          exact absurd H (by simp)
        ·rw [if_neg c16] at H
         exact absurd H (by simp)
       ·rw [if_neg c15] at H
        have c15b0 : ((bt a0 x7_1) == a1) = false := beq_eq_false_iff_ne.mpr c15
        have c15b1 : ((bt a0 x7_1) != a1) = true := bne_iff_ne.mpr c15
        have H' := Az.mk H
        clear H
        have p14 : 0 ≤ (x7_1 : Int) := of_decide_eq_true (by first|(with_reducible assumption)|assumption)
        have q14 : x7_1 < (a0.size : Int) := of_decide_eq_true (by first|(with_reducible assumption)|assumption)
        have hx14 := bt_at a0 x7_1
        replace p14 := eq_true p14
        replace q14 := eq_true q14
        go_wp2
        go_roundg k1
        case measure => have := HK1.out; omega
        case rel => exact ⟨(x5_1), (x6_1), (wrap64 (x7_1 + 1)), (by first | rfl | (simp; done) | (simp [*]; done)), (by first | rfl | (simp; done) | (simp [*]; done)), H', ⟨by have := HK1.out; omega⟩, ⟨by (with_reducible repeat first|apply Kd.Ra|apply Kd.Rn|apply Kd.Rw); exact HO_5.out⟩, ⟨by repeat (first | (with_reducible first|exact HB.out|apply bA|apply bN|apply bD) | exact HB.out)⟩⟩
      ·rw [if_neg c13] at H
       exact absurd H (by simp)
     ·rw [if_neg c12] at H
      exact absurd H (by simp)
   ·rw [if_neg c5] at H
    have c5b0 : decide (x7_1 ≤ (a0.size : Int)) = false := decide_eq_false c5
    clear c5
    obtain rfl := Option.some.inj H
    go_wp2
    go_ret
    exact ⟨_, by first | rfl | (simp [errW_none, errW_some] <;> rfl) | (simp [*, errW_none, errW_some] <;> rfl), by (with_reducible repeat first|apply Kd.Ra|apply Kd.Rn|apply Kd.Rw); exact HO_5.out, by repeat (first | (with_reducible first|exact HB.out|apply bA|apply bN|apply bD) | exact HB.out)⟩
def spec_l7In.l0 : Nat → Int → List Int → Int → Int → Option (Bool)
 | 0, _, _, _, _ => none
 | k + 1, x1, x7, x8, x9 => if x9 < x8 then (if 0 ≤ x9 then (if x9 < (x7.length : Int) then (if (rd x7 x9) = x1 then (some true) else (spec_l7In.l0 k x1 x7 x8 (wrap64 (x9 + 1)))) else (none)) else (none)) else (some false)
def spec_l7In.f (k : Nat) (l0 : List Int) (a1 : Int) : Option (Bool) := spec_l7In.l0 k a1 l0 (l0.length : Int) 0
set_option maxHeartbeats 8000000 in
set_option maxRecDepth 100000 in
theorem spec_l7In.calls (k : Nat) (A0 : Option Addr) (c0 : Nat) (l0 : List Int) (a1 : Int) (r : Bool) (w : World) (hr0 : Kd.C (Kd.int .i64) w A0 l0.length l0) (hc0 : l0.length ≤ c0) (h : spec_l7In.f k l0 a1 = some r) :
  Calls Tryz.prog 79 #[.slice A0 l0.length c0, .int .i64 a1] w fun e w' => e = .returned (.bool r) ∧ Drawn0 w w' := by
 have HR0 := Az.mk hr0
 have HC0 := Az.mk hc0
 clear hr0 hc0
 have H : (spec_l7In.l0 k a1 l0 (l0.length : Int) 0) = some r := h
 clear h
 have H' := Az.mk H
 clear H
 go_enter Tryz.func79, Tryz.ntmps79
 go_wp2
 go_loopg [9] k (fun kq v9 w' => ∃ (x9_1 : Int), v9 = .int .i64 x9_1 ∧ Az (spec_l7In.l0 kq a1 l0 (l0.length : Int) x9_1 = some r) ∧ Az (kq ≤ k) ∧ Drawn0 w w')
 case atStart => exact ⟨(0), (by first | rfl | (simp; done) | (simp [*]; done)), H', ⟨Nat.le_refl _⟩, by repeat (first | exact Drawn0.refl _ | apply Drawn0.step)⟩
 case round =>
  clear H'
  try clear p2
  obtain ⟨x9_1, rfl, HA, HK1, ⟨m1, rfl⟩⟩ := hrel
  cases gk with
  | zero => exact absurd HA.out (by simp [spec_l7In.l0])
  | succ k1 =>
   have H := HA.out
   clear HA
   simp only [spec_l7In.l0] at H
   by_cases c3 : x9_1 < (l0.length : Int)
   ·rw [if_pos c3] at H
    have c3b0 : decide (x9_1 < (l0.length : Int)) = true := decide_eq_true c3
    clear c3
    by_cases c4 : 0 ≤ x9_1
    ·rw [if_pos c4] at H
     have c4b0 : decide (0 ≤ x9_1) = true := decide_eq_true c4
     clear c4
     by_cases c5 : x9_1 < (l0.length : Int)
     ·rw [if_pos c5] at H
      have c5b0 : decide (x9_1 < (l0.length : Int)) = true := decide_eq_true c5
      clear c5
      by_cases c6 : (rd l0 x9_1) = a1
      ·rw [if_pos c6] at H
       have c6b0 : ((rd l0 x9_1) == a1) = true := beq_iff_eq.mpr c6
       have c6b1 : ((rd l0 x9_1) != a1) = false := bne_eq_false_iff_eq.mpr c6
       clear c6
       obtain rfl := Option.some.inj H
       have p147 : 0 ≤ (x9_1 : Int) := of_decide_eq_true (by first|(with_reducible assumption)|assumption)
       have q147 : x9_1 < (l0.length : Int) := of_decide_eq_true (by first|(with_reducible assumption)|assumption)
       obtain ⟨ad147, e147, hx147_0⟩ := Kd.at_int HR0.out x9_1 p147 q147
       cases e147
       replace p147 := eq_true p147
       replace q147 := eq_true q147
       go_wp2
       go_ret
       exact ⟨by first | rfl | (simp; done) | (simp [*]; done), by repeat (first | exact Drawn0.refl _ | apply Drawn0.step)⟩
      ·rw [if_neg c6] at H
       have c6b0 : ((rd l0 x9_1) == a1) = false := beq_eq_false_iff_ne.mpr c6
       have c6b1 : ((rd l0 x9_1) != a1) = true := bne_iff_ne.mpr c6
       have H' := Az.mk H
       clear H
       have p147 : 0 ≤ (x9_1 : Int) := of_decide_eq_true (by first|(with_reducible assumption)|assumption)
       have q147 : x9_1 < (l0.length : Int) := of_decide_eq_true (by first|(with_reducible assumption)|assumption)
       obtain ⟨ad147, e147, hx147_0⟩ := Kd.at_int HR0.out x9_1 p147 q147
       cases e147
       replace p147 := eq_true p147
       replace q147 := eq_true q147
       go_wp2
       go_roundg k1
       case measure => have := HK1.out; omega
       case rel => exact ⟨(wrap64 (x9_1 + 1)), (by first | rfl | (simp; done) | (simp [*]; done)), H', ⟨by have := HK1.out; omega⟩, by repeat (first | exact Drawn0.refl _ | apply Drawn0.step)⟩
     ·rw [if_neg c5] at H
      exact absurd H (by simp)
    ·rw [if_neg c4] at H
     exact absurd H (by simp)
   ·rw [if_neg c3] at H
    have c3b0 : decide (x9_1 < (l0.length : Int)) = false := decide_eq_false c3
    clear c3
    obtain rfl := Option.some.inj H
    go_wp2
    go_ret
    exact ⟨by first | rfl | (simp; done) | (simp [*]; done), by repeat (first | exact Drawn0.refl _ | apply Drawn0.step)⟩
def spec_l7Without.l0 : Nat → Int → List Int → List Int → Int → Int → Option (List Int)
 | 0, _, _, _, _, _ => none
 | k + 1, x1, x5, x9, x10, x11 => if x11 < x10 then (if 0 ≤ x11 then (if x11 < (x9.length : Int) then (if (rd x9 x11) = x1 then (spec_l7Without.l0 k x1 x5 x9 x10 (wrap64 (x11 + 1))) else (if x5.length < 17592186044416 then (spec_l7Without.l0 k x1 (x5 ++ [rd x9 x11]) x9 x10 (wrap64 (x11 + 1))) else (none))) else (none)) else (none)) else (some x5)
def spec_l7Without.f (k : Nat) (l0 : List Int) (a1 : Int) : Option (List Int) := spec_l7Without.l0 k a1 (([] : List Int)) l0 (l0.length : Int) 0
set_option maxHeartbeats 8000000 in
set_option maxRecDepth 100000 in
theorem spec_l7Without.calls (k : Nat) (A0 : Option Addr) (c0 : Nat) (l0 : List Int) (a1 : Int) (r : List Int) (w : World) (hr0 : Kd.C (Kd.int .i64) w A0 l0.length l0) (hc0 : l0.length ≤ c0) (h : spec_l7Without.f k l0 a1 = some r) :
  Calls Tryz.prog 80 #[.slice A0 l0.length c0, .int .i64 a1] w fun e w' => ∃ v0_ : Value, e = .returned (v0_) ∧ Kd.R (Kd.int .i64) 3 w' w.heap.size (fun _ => True) v0_ r ∧ Below w.heap.size w w' := by
 have HR0 := Az.mk hr0
 have HC0 := Az.mk hc0
 clear hr0 hc0
 have HB := Az.mk (Below.refl w.heap.size w)
 have H : (spec_l7Without.l0 k a1 (([] : List Int)) l0 (l0.length : Int) 0) = some r := h
 clear h
 obtain ⟨y148, hy148⟩ : ∃ y_ : List Int, y_ = (([] : List Int)) := ⟨_, rfl⟩
 replace H : (spec_l7Without.l0 k a1 y148 l0 (l0.length : Int) 0) = some r := by first | (rw [hy148]; with_reducible exact H) | (have H2_ := (Option.bind_some _ _).symm.trans H; rw [hy148]; with_reducible exact H2_) | (have H2_ := (Option.bind_some _ _).symm.trans H; with_reducible exact H2_) | with_reducible exact H | (rw [hy148]; exact H) | exact H
 have Ny148 := Az.mk hy148
 clear hy148
 have H' := Az.mk H
 clear H
 go_enter Tryz.func80, Tryz.ntmps80
 go_wp2_with (first | ((with_reducible refine gate_dst (N := 8) rfl ?_); refine Kd.R_lit (Kd.int .i64) _ 3 ?hg (N := 8) ?hd (xs := ([] : List Int)) (inner := []) (ok := fun _ => True) (okp := fun _ => True) ?hr ?hp (fun _ hk => hk) trivial (Below.refl _ _) (Nat.le_refl _) (by simp) ?_; (case hd => rfl); (case hg => rfl); (case hr => first | (go_simp; done) | (go_simp; rfl)); (case hp => exact (Reps.none _ _)); intro v149 w3 ho4 hb hg_ hnew_; clear hg_ hnew_; (first | rw [← Ny148.out] at ho4 | (simp only [Int.reduceToNat] at ho4; rw [← Ny148.out] at ho4)); have n0_ := Az.mk (Kd.R_lower ho4 (bZ (by repeat first|exact HB.out|apply bA|apply bN|apply bD))); have n1_ := Az.mk (bS (by repeat first|exact HB.out|apply bA|apply bN|apply bD) hb); clear HB; have HO150 := n0_; have HB := n1_; clear n0_ n1_; clear hb ho4))
 go_loopg [5, 11] k (fun kq v5 v11 w' => ∃ (x5_1 : List Int) (x11_1 : Int), v11 = .int .i64 x11_1 ∧ Az (spec_l7Without.l0 kq a1 x5_1 l0 (l0.length : Int) x11_1 = some r) ∧ Az (kq ≤ k) ∧ Az (Kd.R (Kd.int .i64) 3 w' w.heap.size (fun _ => True) v5 x5_1) ∧ Az (Below w.heap.size w w'))
 case atStart => exact ⟨(y148), (0), (by first | rfl | (simp; done) | (simp [*]; done)), H', ⟨Nat.le_refl _⟩, ⟨by (with_reducible repeat first|apply Kd.Ra|apply Kd.Rn|apply Kd.Rw); exact HO150.out⟩, ⟨by repeat (first | (with_reducible first|exact HB.out|apply bA|apply bN|apply bD) | exact HB.out)⟩⟩
 case round =>
  clear H'
  try clear p2
  obtain ⟨x5_1, x11_1, rfl, HA, HK1, HO_5, HB⟩ := hrel
  cases gk with
  | zero => exact absurd HA.out (by simp [spec_l7Without.l0])
  | succ k1 =>
   have H := HA.out
   clear HA
   simp only [spec_l7Without.l0] at H
   by_cases c5 : x11_1 < (l0.length : Int)
   ·rw [if_pos c5] at H
    have c5b0 : decide (x11_1 < (l0.length : Int)) = true := decide_eq_true c5
    clear c5
    by_cases c6 : 0 ≤ x11_1
    ·rw [if_pos c6] at H
     have c6b0 : decide (0 ≤ x11_1) = true := decide_eq_true c6
     clear c6
     by_cases c7 : x11_1 < (l0.length : Int)
     ·rw [if_pos c7] at H
      have c7b0 : decide (x11_1 < (l0.length : Int)) = true := decide_eq_true c7
      clear c7
      by_cases c8 : (rd l0 x11_1) = a1
      ·rw [if_pos c8] at H
       have c8b0 : ((rd l0 x11_1) == a1) = true := beq_iff_eq.mpr c8
       have c8b1 : ((rd l0 x11_1) != a1) = false := bne_eq_false_iff_eq.mpr c8
       clear c8
       have H' := Az.mk H
       clear H
       have p151 : 0 ≤ (x11_1 : Int) := of_decide_eq_true (by first|(with_reducible assumption)|assumption)
       have q151 : x11_1 < (l0.length : Int) := of_decide_eq_true (by first|(with_reducible assumption)|assumption)
       obtain ⟨ad151, e151, hx151_0⟩ := Kd.at_int HR0.out x11_1 p151 q151
       cases e151
       replace hx151_0 := (HB.out.cell (World.block_lt_of_cell? w _ hx151_0)).trans hx151_0
       replace p151 := eq_true p151
       replace q151 := eq_true q151
       go_wp2
       go_roundg k1
       case measure => have := HK1.out; omega
       case rel => exact ⟨(x5_1), (wrap64 (x11_1 + 1)), (by first | rfl | (simp; done) | (simp [*]; done)), H', ⟨by have := HK1.out; omega⟩, ⟨by (with_reducible repeat first|apply Kd.Ra|apply Kd.Rn|apply Kd.Rw); exact HO_5.out⟩, ⟨by repeat (first | (with_reducible first|exact HB.out|apply bA|apply bN|apply bD) | exact HB.out)⟩⟩
      ·rw [if_neg c8] at H
       have c8b0 : ((rd l0 x11_1) == a1) = false := beq_eq_false_iff_ne.mpr c8
       have c8b1 : ((rd l0 x11_1) != a1) = true := bne_iff_ne.mpr c8
       by_cases c9 : x5_1.length < 17592186044416
       ·rw [if_pos c9] at H
        have LMc9 := Az.mk c9
        clear c9
        obtain ⟨y152, hy152⟩ : ∃ y_ : List Int, y_ = (x5_1 ++ [rd l0 x11_1]) := ⟨_, rfl⟩
        replace H : (spec_l7Without.l0 k1 a1 y152 l0 (l0.length : Int) (wrap64 (x11_1 + 1))) = some r := by first | (rw [hy152]; with_reducible exact H) | (have H2_ := (Option.bind_some _ _).symm.trans H; rw [hy152]; with_reducible exact H2_) | (have H2_ := (Option.bind_some _ _).symm.trans H; with_reducible exact H2_) | with_reducible exact H | (rw [hy152]; exact H) | exact H
        have Ny152 := Az.mk hy152
        clear hy152
        have H' := Az.mk H
        clear H
        have p151 : 0 ≤ (x11_1 : Int) := of_decide_eq_true (by first|(with_reducible assumption)|assumption)
        have q151 : x11_1 < (l0.length : Int) := of_decide_eq_true (by first|(with_reducible assumption)|assumption)
        obtain ⟨ad151, e151, hx151_0⟩ := Kd.at_int HR0.out x11_1 p151 q151
        cases e151
        replace hx151_0 := (HB.out.cell (World.block_lt_of_cell? w _ hx151_0)).trans hx151_0
        replace p151 := eq_true p151
        replace q151 := eq_true q151
        go_wp2_with (first | ((with_reducible refine gate_builtin (b := .append) (xs := #[.tmp 18, .tmp 20]) rfl ?_); at_builtin; refine Kd.R_append (Kd.int .i64) (w0 := w) w.heap.size rfl (.tmp 18) (.tmp 20) 33 3 (.int .i64 0) 8 rfl Tryz.underlying33 info3 rfl (by decide) (by omega) u5 x5_1 (rd l0 x11_1) [.int .i64 (rd l0 x11_1)] (fun _ => True) (fun _ => False) rfl rfl ?aP (fun _ hk => hk.elim) ?aF ?aO ?aB ?aS ?aL ?_; (case aP => exact rfl); (case aB => exact (by repeat first|exact HB.out|apply bA|apply bN|apply bD)); (case aF => exact (fun _ _ => trivial)); (case aO => exact (by (with_reducible repeat first|apply Kd.Ra|apply Kd.Rn|apply Kd.Rw); exact HO_5.out)); (case aS => exact (bZ (by repeat first|exact HB.out|apply bA|apply bN|apply bD))); (case aL => have := LMc9.out; omega); intro v153 w10 ho hb hg hat; rw [← Ny152.out] at ho; have n0_ := Az.mk (hb); have n1_ := Az.mk (ho); clear HB; clear HO_5; have HB := n0_; have HO154 := n1_; clear n0_ n1_; clear ho hb hg hat))
        go_roundg k1
        case measure => have := HK1.out; omega
        case rel => exact ⟨(y152), (wrap64 (x11_1 + 1)), (by first | rfl | (simp; done) | (simp [*]; done)), H', ⟨by have := HK1.out; omega⟩, ⟨by (with_reducible repeat first|apply Kd.Ra|apply Kd.Rn|apply Kd.Rw); exact HO154.out⟩, ⟨by repeat (first | (with_reducible first|exact HB.out|apply bA|apply bN|apply bD) | exact HB.out)⟩⟩
       ·rw [if_neg c9] at H
        exact absurd H (by simp)
     ·rw [if_neg c7] at H
      exact absurd H (by simp)
    ·rw [if_neg c6] at H
     exact absurd H (by simp)
   ·rw [if_neg c5] at H
    have c5b0 : decide (x11_1 < (l0.length : Int)) = false := decide_eq_false c5
    clear c5
    obtain rfl := Option.some.inj H
    go_wp2
    go_ret
    exact ⟨_, by first | rfl | (simp [errW_none, errW_some] <;> rfl) | (simp [*, errW_none, errW_some] <;> rfl), by (with_reducible repeat first|apply Kd.Ra|apply Kd.Rn|apply Kd.Rw); exact HO_5.out, by repeat (first | (with_reducible first|exact HB.out|apply bA|apply bN|apply bD) | exact HB.out)⟩
mutual
def spec_l13Num.j0 : Nat → ByteArray → Bool → Option (Int × Bool)
 | 0, _, _ => none
 | k + 1, x0, x4 => if x4 = true then (if 1 ≤ (x0.size : Int) then (spec_l13Num.j1 k (x0.extract 1 x0.size) x4) else (none)) else (spec_l13Num.j1 k x0 x4)
def spec_l13Num.j1 : Nat → ByteArray → Bool → Option (Int × Bool)
 | 0, _, _ => none
 | k + 1, x0, x4 => if (x0.size : Int) = 0 then (spec_l13Num.j2 k x0 x4 true) else (if (x0.size : Int) > 17 then (spec_l13Num.j2 k x0 x4 true) else (if 0 < (x0.size : Int) then (if (bt x0 0) = 48 then (if (x0.size : Int) > 1 then (spec_l13Num.j2 k x0 x4 true) else (spec_l13Num.j2 k x0 x4 x4)) else (spec_l13Num.j2 k x0 x4 false)) else (none)))
def spec_l13Num.j2 : Nat → ByteArray → Bool → Bool → Option (Int × Bool)
 | 0, _, _, _ => none
 | k + 1, x0, x4, x38 => if x38 = true then (some (0, false)) else (spec_l13Num.l0 k x0 x4 0 0)
def spec_l13Num.l0 : Nat → ByteArray → Bool → Int → Int → Option (Int × Bool)
 | 0, _, _, _, _ => none
 | k + 1, x0, x4, x5, x6 => if x6 < (x0.size : Int) then (if 0 ≤ x6 then (if (bt x0 x6) < 48 then (some (0, false)) else (if (bt x0 x6) > 57 then (some (0, false)) else (spec_l13Num.l0 k x0 x4 (wrap64 ((wrap64 (x5 * 10)) + (((bt x0 x6) - 48) % 256))) (wrap64 (x6 + 1))))) else (none)) else (if x4 = true then (some (wrap64 (-x5), true)) else (some (x5, true)))
end
def spec_l13Num.f (k : Nat) (a0 : ByteArray) : Option (Int × Bool) := if (a0.size : Int) > 0 then (if 0 < (a0.size : Int) then (spec_l13Num.j0 k a0 ((bt a0 0) == 45)) else (none)) else (spec_l13Num.j0 k a0 false)
set_option maxHeartbeats 8000000 in
set_option maxRecDepth 100000 in
theorem spec_l13Num.calls (k : Nat) (a0 : ByteArray) (r1 : Int) (r2 : Bool) (w : World) (h : spec_l13Num.f k a0 = some (r1, r2)) :
  Calls Tryz.prog 78 #[.string a0] w fun e w' => e = .returned (.tuple #[.int .i64 r1, .bool r2]) ∧ Drawn0 w w' := by
 have H : (if (a0.size : Int) > 0 then (if 0 < (a0.size : Int) then (spec_l13Num.j0 k a0 ((bt a0 0) == 45)) else (none)) else (spec_l13Num.j0 k a0 false)) = some (r1, r2) := h
 clear h
 have HC2 := Az.mk H
 clear H
 go_enter Tryz.func78, Tryz.ntmps78
 go_upto_region 1 with (fail)
 go_cut [4] (fun v4 wc => ∃ (kq : Nat) (x4_1 : Bool), v4 = .bool x4_1 ∧ Az (spec_l13Num.j0 kq a0 x4_1 = some (r1, r2)) ∧ Az (kq ≤ k) ∧ Drawn0 w wc)
 case first =>
  have H := HC2.out
  clear HC2
  by_cases c3 : (a0.size : Int) > 0
  ·rw [if_pos c3] at H
   have c3b0 : decide (0 < (a0.size : Int)) = true := decide_eq_true c3
   have c3b1 : decide (0 < a0.size) = true := decide_eq_true (by omega)
   clear c3
   (first | rw [c3b0] | (simp only [i64_w, i32_w]; rw [c3b0]) | skip)
   by_cases c4 : 0 < (a0.size : Int)
   ·rw [if_pos c4] at H
    have c4b0 : decide (0 < (a0.size : Int)) = true := decide_eq_true c4
    have c4b1 : decide (0 < a0.size) = true := decide_eq_true (by omega)
    clear c4
    have H' := Az.mk H
    clear H
    have p5 : 0 ≤ (0 : Int) := (by omega)
    have q5 : 0 < a0.size := (by have : (0 : Int) < (a0.size : Int) := of_decide_eq_true (by first|(with_reducible assumption)|assumption); omega)
    have hx5 : ∀ h : 0 < a0.size, ((a0[0]'h).toNat : Int) = bt a0 0 := bt_at a0 0
    clear p5
    have qi5 : (0 < (a0.size : Int)) = True := eq_true (of_decide_eq_true (by first|(with_reducible assumption)|assumption))
    replace q5 := eq_true q5
    go_wp2
    go_meet
    case rel => exact ⟨_, (((bt a0 0) == 45)), (by first | rfl | (simp; done) | (simp [*]; done)), H', ⟨by first | omega | exact Nat.le_refl _⟩, by repeat (first | exact Drawn0.refl _ | apply Drawn0.step)⟩
   ·rw [if_neg c4] at H
    exact absurd H (by simp)
  ·rw [if_neg c3] at H
   have c3b0 : decide (0 < (a0.size : Int)) = false := decide_eq_false c3
   have c3b1 : decide (0 < a0.size) = false := decide_eq_false (by omega)
   clear c3
   (first | rw [c3b0] | (simp only [i64_w, i32_w]; rw [c3b0]) | skip)
   have H' := Az.mk H
   clear H
   go_wp2
   go_meet
   case rel => exact ⟨_, (false), (by first | rfl | (simp; done) | (simp [*]; done)), H', ⟨by first | omega | exact Nat.le_refl _⟩, by repeat (first | exact Drawn0.refl _ | apply Drawn0.step)⟩
 case rest =>
  clear HC2
  try clear p2
  try clear c3
  try clear c3b0
  try clear c3b1
  try clear c4
  try clear c4b0
  try clear c4b1
  try clear p5
  try clear q5
  try clear hx5
  try clear qi5
  try clear p5
  try clear q5
  obtain ⟨kq, x4_1, rfl, HA, HJ1, ⟨mc1, rfl⟩⟩ := hcut
  cases kq with
  | zero => exact absurd HA.out (by simp [spec_l13Num.j0])
  | succ kj1 =>
   have H := HA.out
   clear HA
   simp only [spec_l13Num.j0] at H
   have HC6 := Az.mk H
   clear H
   go_upto_if 15 with (fail)
   go_cut [0] (fun v0 wc => ∃ (kq : Nat) (x0_5 : ByteArray), v0 = .string x0_5 ∧ Az (spec_l13Num.j1 kq x0_5 x4_1 = some (r1, r2)) ∧ Az (kq ≤ kj1) ∧ Drawn0 w wc)
   case first =>
    have H := HC6.out
    clear HC6
    by_cases c7 : x4_1 = true
    ·subst c7
     have H1 : (if 1 ≤ (a0.size : Int) then (spec_l13Num.j1 kj1 (a0.extract 1 a0.size) true) else (none)) = some (r1, r2) := by rw [if_pos rfl] at H; exact H
     clear H
     have H := H1
     clear H1
     by_cases c8 : 1 ≤ (a0.size : Int)
     ·rw [if_pos c8] at H
      have c8b0 := eq_true c8
      have c8b1 : decide (1 ≤ (a0.size : Int)) = true := decide_eq_true c8
      clear c8
      have H' := Az.mk H
      clear H
      go_wp2
      go_meet
      case rel => exact ⟨_, (a0.extract 1 a0.size), (by first | rfl | (simp; done) | (simp [*]; done)), H', ⟨by have := HJ1.out; first | omega | exact Nat.le_refl _⟩, by repeat (first | exact Drawn0.refl _ | apply Drawn0.step)⟩
     ·rw [if_neg c8] at H
      exact absurd H (by simp)
    ·replace c7 := Bool.eq_false_iff.mpr c7
     subst c7
     have H1 : (spec_l13Num.j1 kj1 a0 false) = some (r1, r2) := by rw [if_neg (show ¬ (false = true) by decide)] at H; exact H
     clear H
     have H := H1
     clear H1
     have H' := Az.mk H
     clear H
     go_wp2
     go_meet
     case rel => exact ⟨_, (a0), (by first | rfl | (simp; done) | (simp [*]; done)), H', ⟨by have := HJ1.out; first | omega | exact Nat.le_refl _⟩, by repeat (first | exact Drawn0.refl _ | apply Drawn0.step)⟩
   case rest =>
    clear HC6
    try clear c1
    try clear p2
    try clear c3
    try clear c3b0
    try clear c3b1
    try clear c4
    try clear c4b0
    try clear c4b1
    try clear p5
    try clear q5
    try clear hx5
    try clear qi5
    try clear c7
    try clear c8
    try clear c8b0
    try clear c8b1
    try clear p2
    try clear p5
    try clear q5
    obtain ⟨kq, x0_5, rfl, HA, HJ5, ⟨mc5, rfl⟩⟩ := hcut
    cases kq with
    | zero => exact absurd HA.out (by simp [spec_l13Num.j1])
    | succ kj5 =>
     have H := HA.out
     clear HA
     simp only [spec_l13Num.j1] at H
     have HC9 := Az.mk H
     clear H
     go_upto_region 4 with (fail)
     go_cut [38] (fun v38 wc => ∃ (kq : Nat) (x38_8 : Bool), v38 = .bool x38_8 ∧ Az (spec_l13Num.j2 kq x0_5 x4_1 x38_8 = some (r1, r2)) ∧ Az (kq ≤ kj5) ∧ Drawn0 w wc)
     case first =>
      have H := HC9.out
      clear HC9
      by_cases c10 : (x0_5.size : Int) = 0
      ·rw [if_pos c10] at H
       have c10b0 : ((x0_5.size : Int) == 0) = true := beq_iff_eq.mpr c10
       have c10b1 : ((x0_5.size : Int) != 0) = false := bne_eq_false_iff_eq.mpr c10
       clear c10
       (first | rw [c10b0] | (simp only [i64_w, i32_w]; rw [c10b0]) | skip)
       have H' := Az.mk H
       clear H
       go_wp2
       go_meet
       case rel => exact ⟨_, (true), (by first | rfl | (simp; done) | (simp [*]; done)), H', ⟨by have := HJ1.out; have := HJ5.out; first | omega | exact Nat.le_refl _⟩, by repeat (first | exact Drawn0.refl _ | apply Drawn0.step)⟩
      ·rw [if_neg c10] at H
       have c10b0 : ((x0_5.size : Int) == 0) = false := beq_eq_false_iff_ne.mpr c10
       have c10b1 : ((x0_5.size : Int) != 0) = true := bne_iff_ne.mpr c10
       (first | rw [c10b0] | (simp only [i64_w, i32_w]; rw [c10b0]) | skip)
       by_cases c11 : (x0_5.size : Int) > 17
       ·rw [if_pos c11] at H
        have c11b0 : decide (17 < (x0_5.size : Int)) = true := decide_eq_true c11
        have c11b1 : decide (17 < x0_5.size) = true := decide_eq_true (by omega)
        clear c11
        have H' := Az.mk H
        clear H
        go_wp2
        go_meet
        case rel => exact ⟨_, (true), (by first | rfl | (simp; done) | (simp [*]; done)), H', ⟨by have := HJ1.out; have := HJ5.out; first | omega | exact Nat.le_refl _⟩, by repeat (first | exact Drawn0.refl _ | apply Drawn0.step)⟩
       ·rw [if_neg c11] at H
        have c11b0 : decide (17 < (x0_5.size : Int)) = false := decide_eq_false c11
        have c11b1 : decide (17 < x0_5.size) = false := decide_eq_false (by omega)
        clear c11
        by_cases c12 : 0 < (x0_5.size : Int)
        ·rw [if_pos c12] at H
         have c12b0 : decide (0 < (x0_5.size : Int)) = true := decide_eq_true c12
         have c12b1 : decide (0 < x0_5.size) = true := decide_eq_true (by omega)
         clear c12
         by_cases c14 : (bt x0_5 0) = 48
         ·rw [if_pos c14] at H
          have c14b0 : ((bt x0_5 0) == 48) = true := beq_iff_eq.mpr c14
          have c14b1 : ((bt x0_5 0) != 48) = false := bne_eq_false_iff_eq.mpr c14
          clear c14
          by_cases c15 : (x0_5.size : Int) > 1
          ·rw [if_pos c15] at H
           have c15b0 : decide (1 < (x0_5.size : Int)) = true := decide_eq_true c15
           have c15b1 : decide (1 < x0_5.size) = true := decide_eq_true (by omega)
           clear c15
           have H' := Az.mk H
           clear H
           have p13 : 0 ≤ (0 : Int) := (by omega)
           have q13 : 0 < x0_5.size := (by have : (0 : Int) < (x0_5.size : Int) := of_decide_eq_true (by first|(with_reducible assumption)|assumption); omega)
           have hx13 : ∀ h : 0 < x0_5.size, ((x0_5[0]'h).toNat : Int) = bt x0_5 0 := bt_at x0_5 0
           clear p13
           have qi13 : (0 < (x0_5.size : Int)) = True := eq_true (of_decide_eq_true (by first|(with_reducible assumption)|assumption))
           replace q13 := eq_true q13
           go_wp2
           go_meet
           case rel => exact ⟨_, (true), (by first | rfl | (simp; done) | (simp [*]; done)), H', ⟨by have := HJ1.out; have := HJ5.out; first | omega | exact Nat.le_refl _⟩, by repeat (first | exact Drawn0.refl _ | apply Drawn0.step)⟩
          ·rw [if_neg c15] at H
           have c15b0 : decide (1 < (x0_5.size : Int)) = false := decide_eq_false c15
           have c15b1 : decide (1 < x0_5.size) = false := decide_eq_false (by omega)
           clear c15
           have H' := Az.mk H
           clear H
           have p13 : 0 ≤ (0 : Int) := (by omega)
           have q13 : 0 < x0_5.size := (by have : (0 : Int) < (x0_5.size : Int) := of_decide_eq_true (by first|(with_reducible assumption)|assumption); omega)
           have hx13 : ∀ h : 0 < x0_5.size, ((x0_5[0]'h).toNat : Int) = bt x0_5 0 := bt_at x0_5 0
           clear p13
           have qi13 : (0 < (x0_5.size : Int)) = True := eq_true (of_decide_eq_true (by first|(with_reducible assumption)|assumption))
           replace q13 := eq_true q13
           go_wp2
           go_meet
           case rel => exact ⟨_, (x4_1), (by first | rfl | (simp; done) | (simp [*]; done)), H', ⟨by have := HJ1.out; have := HJ5.out; first | omega | exact Nat.le_refl _⟩, by repeat (first | exact Drawn0.refl _ | apply Drawn0.step)⟩
         ·rw [if_neg c14] at H
          have c14b0 : ((bt x0_5 0) == 48) = false := beq_eq_false_iff_ne.mpr c14
          have c14b1 : ((bt x0_5 0) != 48) = true := bne_iff_ne.mpr c14
          have H' := Az.mk H
          clear H
          have p13 : 0 ≤ (0 : Int) := (by omega)
          have q13 : 0 < x0_5.size := (by have : (0 : Int) < (x0_5.size : Int) := of_decide_eq_true (by first|(with_reducible assumption)|assumption); omega)
          have hx13 : ∀ h : 0 < x0_5.size, ((x0_5[0]'h).toNat : Int) = bt x0_5 0 := bt_at x0_5 0
          clear p13
          have qi13 : (0 < (x0_5.size : Int)) = True := eq_true (of_decide_eq_true (by first|(with_reducible assumption)|assumption))
          replace q13 := eq_true q13
          go_wp2
          go_meet
          case rel => exact ⟨_, (false), (by first | rfl | (simp; done) | (simp [*]; done)), H', ⟨by have := HJ1.out; have := HJ5.out; first | omega | exact Nat.le_refl _⟩, by repeat (first | exact Drawn0.refl _ | apply Drawn0.step)⟩
        ·rw [if_neg c12] at H
         exact absurd H (by simp)
     case rest =>
      clear HC9
      try clear c1
      try clear p1
      try clear q1
      try clear hx1
      try clear qi1
      try clear p2
      try clear c3
      try clear c3b0
      try clear c3b1
      try clear c4
      try clear c4b0
      try clear c4b1
      try clear c5
      try clear p5
      try clear q5
      try clear hx5
      try clear qi5
      try clear c7
      try clear c8
      try clear c8b0
      try clear c8b1
      try clear c10
      try clear c10b0
      try clear c10b1
      try clear c11
      try clear c11b0
      try clear c11b1
      try clear c12
      try clear c12b0
      try clear c12b1
      try clear p13
      try clear q13
      try clear hx13
      try clear qi13
      try clear c14
      try clear c14b0
      try clear c14b1
      try clear c15
      try clear c15b0
      try clear c15b1
      try clear p13
      try clear p2
      try clear p5
      try clear q13
      try clear q5
      obtain ⟨kq, x38_8, rfl, HA, HJ8, ⟨mc8, rfl⟩⟩ := hcut
      cases kq with
      | zero => exact absurd HA.out (by simp [spec_l13Num.j2])
      | succ kj8 =>
       have H := HA.out
       clear HA
       simp only [spec_l13Num.j2] at H
       by_cases c16 : x38_8 = true
       ·subst c16
        have H1 : (some (0, false)) = some (r1, r2) := by rw [if_pos rfl] at H; exact H
        clear H
        have H := H1
        clear H1
        simp only [Option.some.injEq, Prod.mk.injEq] at H
        obtain ⟨rfl, rfl⟩ := H
        go_wp2
        go_ret2
        exact ⟨by first | rfl | (simp; done) | (simp [*]; done), by repeat (first | exact Drawn0.refl _ | apply Drawn0.step)⟩
       ·replace c16 := Bool.eq_false_iff.mpr c16
        subst c16
        have H1 : (spec_l13Num.l0 kj8 x0_5 x4_1 0 0) = some (r1, r2) := by rw [if_neg (show ¬ (false = true) by decide)] at H; exact H
        clear H
        have H := H1
        clear H1
        have H' := Az.mk H
        clear H
        go_wp2
        go_loopg [5, 6] kj8 (fun kq v5 v6 w' => ∃ (x5_4 : Int) (x6_4 : Int), v5 = .int .i64 x5_4 ∧ v6 = .int .i64 x6_4 ∧ Az (spec_l13Num.l0 kq x0_5 x4_1 x5_4 x6_4 = some (r1, r2)) ∧ Az (kq ≤ kj8) ∧ Drawn0 w w')
        case atStart => exact ⟨(0), (0), (by first | rfl | (simp; done) | (simp [*]; done)), (by first | rfl | (simp; done) | (simp [*]; done)), H', ⟨Nat.le_refl _⟩, by repeat (first | exact Drawn0.refl _ | apply Drawn0.step)⟩
        case round =>
         clear H'
         try clear c1
         try clear p1
         try clear q1
         try clear hx1
         try clear qi1
         try clear p2
         try clear c3
         try clear c3b0
         try clear c3b1
         try clear c4
         try clear c4b0
         try clear c4b1
         try clear c5
         try clear p5
         try clear q5
         try clear hx5
         try clear qi5
         try clear c7
         try clear c8
         try clear c8b0
         try clear c8b1
         try clear c10
         try clear c10b0
         try clear c10b1
         try clear c11
         try clear c11b0
         try clear c11b1
         try clear c12
         try clear c12b0
         try clear c12b1
         try clear p13
         try clear q13
         try clear hx13
         try clear qi13
         try clear c14
         try clear c14b0
         try clear c14b1
         try clear c15
         try clear c15b0
         try clear c15b1
         try clear c16
         try clear p1
         try clear p13
         try clear p2
         try clear p5
         try clear q1
         try clear q13
         try clear q5
         obtain ⟨x5_4, x6_4, rfl, rfl, HA, HK4, ⟨m4, rfl⟩⟩ := hrel
         cases gk with
         | zero => exact absurd HA.out (by simp [spec_l13Num.l0])
         | succ k4 =>
          have H := HA.out
          clear HA
          simp only [spec_l13Num.l0] at H
          by_cases c17 : x6_4 < (x0_5.size : Int)
          ·rw [if_pos c17] at H
           have c17b0 : decide (x6_4 < (x0_5.size : Int)) = true := decide_eq_true c17
           clear c17
           by_cases c18 : 0 ≤ x6_4
           ·rw [if_pos c18] at H
            have c18b0 : decide (0 ≤ x6_4) = true := decide_eq_true c18
            clear c18
            by_cases c20 : (bt x0_5 x6_4) < 48
            ·rw [if_pos c20] at H
             have c20b0 : decide ((bt x0_5 x6_4) < 48) = true := decide_eq_true c20
             clear c20
             simp only [Option.some.injEq, Prod.mk.injEq] at H
             obtain ⟨rfl, rfl⟩ := H
             have p19 : 0 ≤ (x6_4 : Int) := of_decide_eq_true (by first|(with_reducible assumption)|assumption)
             have q19 : x6_4 < (x0_5.size : Int) := of_decide_eq_true (by first|(with_reducible assumption)|assumption)
             have hx19 := bt_at x0_5 x6_4
             replace p19 := eq_true p19
             replace q19 := eq_true q19
             go_wp2
             go_ret2
             exact ⟨by first | rfl | (simp; done) | (simp [*]; done), by repeat (first | exact Drawn0.refl _ | apply Drawn0.step)⟩
            ·rw [if_neg c20] at H
             have c20b0 : decide ((bt x0_5 x6_4) < 48) = false := decide_eq_false c20
             clear c20
             by_cases c22 : (bt x0_5 x6_4) > 57
             ·rw [if_pos c22] at H
              have c22b0 : decide (57 < (bt x0_5 x6_4)) = true := decide_eq_true c22
              clear c22
              simp only [Option.some.injEq, Prod.mk.injEq] at H
              obtain ⟨rfl, rfl⟩ := H
              have p19 : 0 ≤ (x6_4 : Int) := of_decide_eq_true (by first|(with_reducible assumption)|assumption)
              have q19 : x6_4 < (x0_5.size : Int) := of_decide_eq_true (by first|(with_reducible assumption)|assumption)
              have hx19 := bt_at x0_5 x6_4
              replace p19 := eq_true p19
              replace q19 := eq_true q19
              have p21 : 0 ≤ (x6_4 : Int) := of_decide_eq_true (by first|(with_reducible assumption)|assumption)
              have q21 : x6_4 < (x0_5.size : Int) := of_decide_eq_true (by first|(with_reducible assumption)|assumption)
              have hx21 := bt_at x0_5 x6_4
              replace p21 := eq_true p21
              replace q21 := eq_true q21
              go_wp2
              go_ret2
              exact ⟨by first | rfl | (simp; done) | (simp [*]; done), by repeat (first | exact Drawn0.refl _ | apply Drawn0.step)⟩
             ·rw [if_neg c22] at H
              have c22b0 : decide (57 < (bt x0_5 x6_4)) = false := decide_eq_false c22
              clear c22
              have H' := Az.mk H
              clear H
              have p19 : 0 ≤ (x6_4 : Int) := of_decide_eq_true (by first|(with_reducible assumption)|assumption)
              have q19 : x6_4 < (x0_5.size : Int) := of_decide_eq_true (by first|(with_reducible assumption)|assumption)
              have hx19 := bt_at x0_5 x6_4
              replace p19 := eq_true p19
              replace q19 := eq_true q19
              have p21 : 0 ≤ (x6_4 : Int) := of_decide_eq_true (by first|(with_reducible assumption)|assumption)
              have q21 : x6_4 < (x0_5.size : Int) := of_decide_eq_true (by first|(with_reducible assumption)|assumption)
              have hx21 := bt_at x0_5 x6_4
              replace p21 := eq_true p21
              replace q21 := eq_true q21
              have p23 : 0 ≤ (x6_4 : Int) := of_decide_eq_true (by first|(with_reducible assumption)|assumption)
              have q23 : x6_4 < (x0_5.size : Int) := of_decide_eq_true (by first|(with_reducible assumption)|assumption)
              have hx23 := bt_at x0_5 x6_4
              replace p23 := eq_true p23
              replace q23 := eq_true q23
              go_wp2
              go_roundg k4
              case measure => have := HJ1.out; have := HJ5.out; have := HJ8.out; have := HK4.out; omega
              case rel => exact ⟨(wrap64 ((wrap64 (x5_4 * 10)) + (((bt x0_5 x6_4) - 48) % 256))), (wrap64 (x6_4 + 1)), (by first | rfl | (simp; done) | (simp [*]; done)), (by first | rfl | (simp; done) | (simp [*]; done)), H', ⟨by have := HJ1.out; have := HJ5.out; have := HJ8.out; have := HK4.out; omega⟩, by repeat (first | exact Drawn0.refl _ | apply Drawn0.step)⟩
           ·rw [if_neg c18] at H
            exact absurd H (by simp)
          ·rw [if_neg c17] at H
           have c17b0 : decide (x6_4 < (x0_5.size : Int)) = false := decide_eq_false c17
           clear c17
           by_cases c24 : x4_1 = true
           ·subst c24
            have H1 : (some (wrap64 (-x5_4), true)) = some (r1, r2) := by rw [if_pos rfl] at H; exact H
            clear H
            have H := H1
            clear H1
            simp only [Option.some.injEq, Prod.mk.injEq] at H
            obtain ⟨rfl, rfl⟩ := H
            go_wp2
            go_ret2
            exact ⟨by first | rfl | (simp; done) | (simp [*]; done), by repeat (first | exact Drawn0.refl _ | apply Drawn0.step)⟩
           ·replace c24 := Bool.eq_false_iff.mpr c24
            subst c24
            have H1 : (some (x5_4, true)) = some (r1, r2) := by rw [if_neg (show ¬ (false = true) by decide)] at H; exact H
            clear H
            have H := H1
            clear H1
            simp only [Option.some.injEq, Prod.mk.injEq] at H
            obtain ⟨rfl, rfl⟩ := H
            go_wp2
            go_ret2
            exact ⟨by first | rfl | (simp; done) | (simp [*]; done), by repeat (first | exact Drawn0.refl _ | apply Drawn0.step)⟩
end Go.Proofs.YtndjbnkmhpbnpaaGreatDoor.Pr
namespace Go.Proofs.YtndjbnkmhpbnpaaGreatDoor.Pr
open Go.RowKit Go.Proofs.YtndjbnkmhpbnpaaGreatDoorW.PrintWords Go.Proofs.YtndjbnkmhpbnpaaGreatDoorW.PrintLast Go.Proofs.YtndjbnkmhpbnpaaGreatDoorW.PrintMore
attribute [local go_sem] max2_int min2_int max_two min_two max_three min_three max_four min_four   -- for this text's walks alone
set_option linter.unusedVariables false
set_option linter.unusedSimpArgs false
mutual
def spec_l7Read.l0 : Nat → List (S63) → Int → List Int → List ByteArray → Int → Int → Option ((List (S63)) × Bool)
 | 0, _, _, _, _, _, _ => none
 | k + 1, x4, x5, x6, x18, x19, x20 => if x20 < x19 then (if 0 ≤ x20 then (if x20 < (x18.length : Int) then (if (rdOf ByteArray.empty x18 x20).toList = ([] : List UInt8) then (spec_l7Read.j1 k x4 x5 x6 (rdOf ByteArray.empty x18 x20) x18 x19 x20 true) else (spec_l7Read.j1 k x4 x5 x6 (rdOf ByteArray.empty x18 x20) x18 x19 x20 (decide ((x4.length : Int) ≥ 600)))) else (none)) else (none)) else (some (x4, true))
def spec_l7Read.j1 : Nat → List (S63) → Int → List Int → ByteArray → List ByteArray → Int → Int → Bool → Option ((List (S63)) × Bool)
 | 0, _, _, _, _, _, _, _, _ => none
 | k + 1, x4, x5, x6, x8, x18, x19, x20, x30 => if x30 = true then (some ((([] : List (S63))), false)) else (if 1 ≤ (x8.size : Int) then ((spec_l13Num.f k (x8.extract 1 x8.size)).bind fun bt168 => (if 0 < (x8.size : Int) then (if bt168.2 = true then (if (bt x8 0) = 43 then (spec_l7Read.j2 k x4 x5 x6 bt168.1 x18 x19 x20 (bt168.1 == (wrap64 (x5 + 1))) (bt x8 0) bt168.1) else (spec_l7Read.j2 k x4 x5 x6 bt168.1 x18 x19 x20 false (bt x8 0) bt168.1)) else (some ((([] : List (S63))), false))) else (none))) else (none))
def spec_l7Read.j2 : Nat → List (S63) → Int → List Int → Int → List ByteArray → Int → Int → Bool → Int → Int → Option ((List (S63)) × Bool)
 | 0, _, _, _, _, _, _, _, _, _, _ => none
 | k + 1, x4, x5, x6, x9, x18, x19, x20, x47, x171000, x171001 => if x47 = true then (if x6.length < 17592186044416 then (if x4.length < 8796093022208 then (spec_l7Read.l0 k (x4 ++ [(⟨x171000, x171001⟩ : S63)]) x9 (x6 ++ [x9]) x18 x19 (wrap64 (x20 + 1))) else (none)) else (none)) else (if x171000 = 46 then ((spec_l7In.f k x6 x9).bind fun t177 => (spec_l7Read.j3 k x4 x5 x6 x9 x18 x19 x20 t177 x171000 x171001)) else (spec_l7Read.j3 k x4 x5 x6 x9 x18 x19 x20 false x171000 x171001))
def spec_l7Read.j3 : Nat → List (S63) → Int → List Int → Int → List ByteArray → Int → Int → Bool → Int → Int → Option ((List (S63)) × Bool)
 | 0, _, _, _, _, _, _, _, _, _, _ => none
 | k + 1, x4, x5, x6, x9, x18, x19, x20, x62, x171000, x171001 => if x62 = true then (if x4.length < 8796093022208 then (spec_l7Read.l0 k (x4 ++ [(⟨x171000, x171001⟩ : S63)]) x5 x6 x18 x19 (wrap64 (x20 + 1))) else (none)) else (if x171000 = 45 then ((spec_l7In.f k x6 x9).bind fun t181 => (if t181 = true then ((spec_l7Without.f k x6 x9).bind fun t182 => (if x4.length < 8796093022208 then (spec_l7Read.l0 k (x4 ++ [(⟨x171000, x171001⟩ : S63)]) x5 t182 x18 x19 (wrap64 (x20 + 1))) else (none))) else (some ((([] : List (S63))), false)))) else (some ((([] : List (S63))), false)))
end
def spec_l7Read.f (k : Nat) (a0 : ByteArray) : Option ((List (S63)) × Bool) := (some (([] : List (S63)) : List (S63))).bind fun y155 => (if a0.toList = ([45] : List UInt8) then (some (y155, true)) else ((spec_l13Cut.f k a0 32).bind fun t161 => (spec_l7Read.l0 k y155 0 (([] : List Int)) t161 (t161.length : Int) 0)))
set_option maxHeartbeats 8000000 in
set_option maxRecDepth 100000 in
theorem spec_l7Read.calls (k : Nat) (a0 : ByteArray) (r1 : List (S63)) (r2 : Bool) (w : World) (h : spec_l7Read.f k a0 = some (r1, r2)) :
  Calls Tryz.prog 54 #[.string a0] w fun e w' => ∃ v0_ : Value, e = .returned (.tuple #[v0_, .bool r2]) ∧ Kd.R k63 63 w' w.heap.size (fun _ => True) v0_ r1 ∧ Below w.heap.size w w' := by
 have hu63 := Tryz.underlying63
 have HB := Az.mk (Below.refl w.heap.size w)
 have H : ((some (([] : List (S63)) : List (S63))).bind fun y155 => (if a0.toList = ([45] : List UInt8) then (some (y155, true)) else ((spec_l13Cut.f k a0 32).bind fun t161 => (spec_l7Read.l0 k y155 0 (([] : List Int)) t161 (t161.length : Int) 0)))) = some (r1, r2) := h
 clear h
 obtain ⟨y155, hy155⟩ : ∃ y_ : List (S63), y_ = (([] : List (S63))) := ⟨_, rfl⟩
 replace H : (if a0.toList = ([45] : List UInt8) then (some (y155, true)) else ((spec_l13Cut.f k a0 32).bind fun t161 => (spec_l7Read.l0 k y155 0 (([] : List Int)) t161 (t161.length : Int) 0))) = some (r1, r2) := by first | (rw [hy155]; with_reducible exact H) | (have H2_ := (Option.bind_some _ _).symm.trans H; rw [hy155]; with_reducible exact H2_) | (have H2_ := (Option.bind_some _ _).symm.trans H; with_reducible exact H2_) | with_reducible exact H | (rw [hy155]; exact H) | exact H
 have Ny155 := Az.mk hy155
 clear hy155
 by_cases c2 : a0.toList = ([45] : List UInt8)
 ·rw [if_pos c2] at H
  have c2b0 : (a0.toList == ([45] : List UInt8)) = true := beq_iff_eq.mpr c2
  have c2b1 : (a0.toList != ([45] : List UInt8)) = false := bne_eq_false_iff_eq.mpr c2
  clear c2
  simp only [Option.some.injEq, Prod.mk.injEq] at H
  obtain ⟨rfl, rfl⟩ := H
  go_enter Tryz.func54, Tryz.ntmps54
  go_wp2_with (first | ((with_reducible refine gate_dst (N := 12) rfl ?_); (try (refine gate_guard (by rfl) ?_; dsimp only)); refine Kd.R_lit k63 _ 63 ?hg (N := 12) ?hd (xs := ([] : List (S63))) (inner := []) (ok := fun _ => True) (okp := fun _ => True) ?hr ?hp (fun _ hk => hk) trivial (Below.refl _ _) (Nat.le_refl _) (by simp) ?_; (case hd => rfl); (case hg => rfl); (case hr => first | (go_simp; done) | (go_simp; rfl)); (case hp => exact (Reps.none _ _)); intro v156 w3 ho4 hb hg_ hnew_; clear hg_ hnew_; (first | rw [← Ny155.out] at ho4 | (simp only [Int.reduceToNat] at ho4; rw [← Ny155.out] at ho4)); have n0_ := Az.mk (Kd.R_lower ho4 (bZ (by repeat first|exact HB.out|apply bA|apply bN|apply bD))); have n1_ := Az.mk (bS (by repeat first|exact HB.out|apply bA|apply bN|apply bD) hb); clear HB; have HO157 := n0_; have HB := n1_; clear n0_ n1_; clear hb ho4))
  go_ret2
  exact ⟨_, by first | rfl | (simp [errW_none, errW_some] <;> rfl) | (simp [*, errW_none, errW_some] <;> rfl), by (with_reducible repeat first|apply Kd.Ra|apply Kd.Rn|apply Kd.Rw); exact HO157.out, by repeat (first | (with_reducible first|exact HB.out|apply bA|apply bN|apply bD) | exact HB.out)⟩
 ·rw [if_neg c2] at H
  have c2b0 : (a0.toList == ([45] : List UInt8)) = false := beq_eq_false_iff_ne.mpr c2
  have c2b1 : (a0.toList != ([45] : List UInt8)) = true := bne_iff_ne.mpr c2
  obtain ⟨y158, hy158⟩ : ∃ y_ : List Int, y_ = (([] : List Int)) := ⟨_, rfl⟩
  replace H : ((spec_l13Cut.f k a0 32).bind fun t161 => (spec_l7Read.l0 k y155 0 y158 t161 (t161.length : Int) 0)) = some (r1, r2) := by first | (rw [hy158]; with_reducible exact H) | (have H2_ := (Option.bind_some _ _).symm.trans H; rw [hy158]; with_reducible exact H2_) | (have H2_ := (Option.bind_some _ _).symm.trans H; with_reducible exact H2_) | with_reducible exact H | (rw [hy158]; exact H) | exact H
  have Ny158 := Az.mk hy158
  clear hy158
  replace H := Option.bind_eq_some_iff.mp H
  obtain ⟨t161, A50, H⟩ := H
  replace H : (spec_l7Read.l0 k y155 0 y158 t161 (t161.length : Int) 0) = some (r1, r2) := H
  have A5 := Az.mk A50
  clear A50
  have H' := Az.mk H
  clear H
  go_enter Tryz.func54, Tryz.ntmps54
  go_wp2_with (first | ((with_reducible refine gate_dst (N := 12) rfl ?_); (try (refine gate_guard (by rfl) ?_; dsimp only)); refine Kd.R_lit k63 _ 63 ?hg (N := 12) ?hd (xs := ([] : List (S63))) (inner := []) (ok := fun _ => True) (okp := fun _ => True) ?hr ?hp (fun _ hk => hk) trivial (Below.refl _ _) (Nat.le_refl _) (by simp) ?_; (case hd => rfl); (case hg => rfl); (case hr => first | (go_simp; done) | (go_simp; rfl)); (case hp => exact (Reps.none _ _)); intro v156 w6 ho7 hb hg_ hnew_; clear hg_ hnew_; (first | rw [← Ny155.out] at ho7 | (simp only [Int.reduceToNat] at ho7; rw [← Ny155.out] at ho7)); have n0_ := Az.mk (Kd.R_lower ho7 (bZ (by repeat first|exact HB.out|apply bA|apply bN|apply bD))); have n1_ := Az.mk (bS (by repeat first|exact HB.out|apply bA|apply bN|apply bD) hb); clear HB; have HO157 := n0_; have HB := n1_; clear n0_ n1_; clear hb ho7) | ((with_reducible refine gate_dst (N := 16) rfl ?_); (try (refine gate_guard (by rfl) ?_; dsimp only)); refine Kd.R_lit (Kd.int .i64) _ 3 ?hg (N := 16) ?hd (xs := ([] : List Int)) (inner := []) (ok := fun _ => True) (okp := fun _ => True) ?hr ?hp (fun _ hk => hk) trivial (Below.refl _ _) (Nat.le_refl _) (by simp) ?_; (case hd => rfl); (case hg => rfl); (case hr => first | (go_simp; done) | (go_simp; rfl)); (case hp => exact (Reps.none _ _)); intro v159 w8 ho9 hb hg_ hnew_; clear hg_ hnew_; (first | rw [← Ny158.out] at ho9 | (simp only [Int.reduceToNat] at ho9; rw [← Ny158.out] at ho9)); have n0_ := Az.mk (Kd.Rb (by (with_reducible repeat first|apply Kd.Ra|apply Kd.Rn|apply Kd.Rw); exact HO157.out) hb); have n1_ := Az.mk (Kd.R_lower ho9 (bZ (by repeat first|exact HB.out|apply bA|apply bN|apply bD))); have n2_ := Az.mk (bS (by repeat first|exact HB.out|apply bA|apply bN|apply bD) hb); clear HO157; clear HB; have HO157 := n0_; have HO160 := n1_; have HB := n2_; clear n0_ n1_ n2_; clear hb ho9) | ((with_reducible refine gate_callee (f := 77) rfl ?_); refine goesL_ (some 18) rfl rfl Tryz.func77 (by kernel_rfl) rfl #[.string a0, .int .u8 32] rfl (by (try simp only [List.map_toArray, List.map_cons, List.map_nil]); first | done | rfl | (simp only [List.length_drop, List.length_take]; rfl)) ?_; (with_reducible refine (spec_l13Cut.calls k a0 32 t161 _ A5.out).mono ?_); rintro e w10 ⟨v162, rfl, ho0, hb⟩; refine ⟨_, rfl, ?_⟩; have n0_ := Az.mk (Kd.Rb (by (with_reducible repeat first|apply Kd.Ra|apply Kd.Rn|apply Kd.Rw); exact HO157.out) hb); have n1_ := Az.mk (Kd.Rb (by (with_reducible repeat first|apply Kd.Ra|apply Kd.Rn|apply Kd.Rw); exact HO160.out) hb); have n2_ := Az.mk (Kd.R_lower ho0 (bZ (by repeat first|exact HB.out|apply bA|apply bN|apply bD))); have n3_ := Az.mk (bS (by repeat first|exact HB.out|apply bA|apply bN|apply bD) hb); clear HO157; clear HO160; clear HB; have HO157 := n0_; have HO160 := n1_; have HO163 := n2_; have HB := n3_; clear n0_ n1_ n2_ n3_; (try clear hb); (try clear hb2); (try clear hk); (try clear hi); (try clear ho0); obtain ⟨Ao11, co11, eo11⟩ := Kd.R_slice HO163.out; subst eo11))
  go_loopg [4, 5, 6, 20] k (fun kq v4 v5 v6 v20 w' => ∃ (x4_1 : List (S63)) (x5_1 : Int) (x6_1 : List Int) (x20_1 : Int), v5 = .int .i64 x5_1 ∧ v20 = .int .i64 x20_1 ∧ Az (spec_l7Read.l0 kq x4_1 x5_1 x6_1 t161 (t161.length : Int) x20_1 = some (r1, r2)) ∧ Az (kq ≤ k) ∧ Az (Kd.R k63 63 w' w.heap.size (fun _ => True) v4 x4_1) ∧ Az (Kd.R (Kd.int .i64) 3 w' w.heap.size (fun _ => True) v6 x6_1) ∧ Az (Kd.R Kd.string 9 w' w.heap.size (fun _ => True) (.slice Ao11 t161.length co11) t161) ∧ Az (Below w.heap.size w w'))
  case atStart => exact ⟨(y155), (0), (y158), (0), (by first | rfl | (simp; done) | (simp [*]; done)), (by first | rfl | (simp; done) | (simp [*]; done)), H', ⟨Nat.le_refl _⟩, ⟨by (with_reducible repeat first|apply Kd.Ra|apply Kd.Rn|apply Kd.Rw); exact HO157.out⟩, ⟨by (with_reducible repeat first|apply Kd.Ra|apply Kd.Rn|apply Kd.Rw); exact HO160.out⟩, ⟨by (with_reducible repeat first|apply Kd.Ra|apply Kd.Rn|apply Kd.Rw); exact HO163.out⟩, ⟨by repeat (first | (with_reducible first|exact HB.out|apply bA|apply bN|apply bD) | exact HB.out)⟩⟩
  case round =>
   clear H'
   try clear c2
   try clear c2b0
   try clear c2b1
   try clear p2
   try clear c5
   try clear c7
   obtain ⟨x4_1, x5_1, x6_1, x20_1, rfl, rfl, HA, HK1, HO_4, HO_6, HO_18, HB⟩ := hrel
   cases gk with
   | zero => exact absurd HA.out (by simp [spec_l7Read.l0])
   | succ k1 =>
    have H := HA.out
    clear HA
    simp only [spec_l7Read.l0] at H
    by_cases c12 : x20_1 < (t161.length : Int)
    ·rw [if_pos c12] at H
     have c12b0 : decide (x20_1 < (t161.length : Int)) = true := decide_eq_true c12
     clear c12
     by_cases c13 : 0 ≤ x20_1
     ·rw [if_pos c13] at H
      have c13b0 : decide (0 ≤ x20_1) = true := decide_eq_true c13
      clear c13
      by_cases c14 : x20_1 < (t161.length : Int)
      ·rw [if_pos c14] at H
       have c14b0 : decide (x20_1 < (t161.length : Int)) = true := decide_eq_true c14
       clear c14
       have HC15 := Az.mk H
       clear H
       have p164 : 0 ≤ (x20_1 : Int) := of_decide_eq_true (by first|(with_reducible assumption)|assumption)
       have q164 : x20_1 < (t161.length : Int) := of_decide_eq_true (by first|(with_reducible assumption)|assumption)
       obtain ⟨ad164, e164, hx164_0⟩ := Kd.at_string (Kd.R_reads' HO_18.out).2.2 x20_1 p164 q164
       cases e164
       replace p164 := eq_true p164
       replace q164 := eq_true q164
       go_upto_region 9 with (fail)
       go_cut [30] (fun v30 wc => ∃ (kq : Nat) (x30_14 : Bool), v30 = .bool x30_14 ∧ Az (spec_l7Read.j1 kq x4_1 x5_1 x6_1 (rdOf ByteArray.empty t161 x20_1) t161 (t161.length : Int) x20_1 x30_14 = some (r1, r2)) ∧ Az (kq ≤ k1) ∧ Az (Kd.R k63 63 wc w.heap.size (fun _ => True) u4 x4_1) ∧ Az (Kd.R (Kd.int .i64) 3 wc w.heap.size (fun _ => True) u6 x6_1) ∧ Az (Kd.R Kd.string 9 wc w.heap.size (fun _ => True) (.slice (some ad164) t161.length co11) t161) ∧ Az (Below w.heap.size w wc))
       case first =>
        have H := HC15.out
        clear HC15
        by_cases c16 : (rdOf ByteArray.empty t161 x20_1).toList = ([] : List UInt8)
        ·rw [if_pos c16] at H
         have c16b0 : ((rdOf ByteArray.empty t161 x20_1).toList == ([] : List UInt8)) = true := beq_iff_eq.mpr c16
         have c16b1 : ((rdOf ByteArray.empty t161 x20_1).toList != ([] : List UInt8)) = false := bne_eq_false_iff_eq.mpr c16
         clear c16
         (first | rw [c16b0] | (simp only [i64_w, i32_w]; rw [c16b0]) | skip)
         have H' := Az.mk H
         clear H
         go_wp2
         go_meet
         case rel => exact ⟨_, (true), (by first | rfl | (simp; done) | (simp [*]; done)), H', ⟨by have := HK1.out; first | omega | exact Nat.le_refl _⟩, ⟨by (with_reducible repeat first|apply Kd.Ra|apply Kd.Rn|apply Kd.Rw); exact HO_4.out⟩, ⟨by (with_reducible repeat first|apply Kd.Ra|apply Kd.Rn|apply Kd.Rw); exact HO_6.out⟩, ⟨by (with_reducible repeat first|apply Kd.Ra|apply Kd.Rn|apply Kd.Rw); exact HO_18.out⟩, ⟨by repeat (first | (with_reducible first|exact HB.out|apply bA|apply bN|apply bD) | exact HB.out)⟩⟩
        ·rw [if_neg c16] at H
         have c16b0 : ((rdOf ByteArray.empty t161 x20_1).toList == ([] : List UInt8)) = false := beq_eq_false_iff_ne.mpr c16
         have c16b1 : ((rdOf ByteArray.empty t161 x20_1).toList != ([] : List UInt8)) = true := bne_iff_ne.mpr c16
         (first | rw [c16b0] | (simp only [i64_w, i32_w]; rw [c16b0]) | skip)
         have H' := Az.mk H
         clear H
         obtain ⟨Ao17, co17, eo17⟩ := Kd.R_slice HO_4.out
         subst eo17
         go_wp2
         go_meet
         case rel => exact ⟨_, (decide ((x4_1.length : Int) ≥ 600)), (by first | rfl | (simp; done) | (simp [*]; done)), H', ⟨by have := HK1.out; first | omega | exact Nat.le_refl _⟩, ⟨by (with_reducible repeat first|apply Kd.Ra|apply Kd.Rn|apply Kd.Rw); exact HO_4.out⟩, ⟨by (with_reducible repeat first|apply Kd.Ra|apply Kd.Rn|apply Kd.Rw); exact HO_6.out⟩, ⟨by (with_reducible repeat first|apply Kd.Ra|apply Kd.Rn|apply Kd.Rw); exact HO_18.out⟩, ⟨by repeat (first | (with_reducible first|exact HB.out|apply bA|apply bN|apply bD) | exact HB.out)⟩⟩
       case rest =>
        clear HC15
        try clear c1
        try clear p1
        try clear q1
        try clear hx1
        try clear c2
        try clear c2b0
        try clear c2b1
        try clear p2
        try clear c5
        try clear c7
        try clear c12
        try clear c12b0
        try clear c13
        try clear c13b0
        try clear c14
        try clear c14b0
        try clear c16
        try clear c16b0
        try clear c16b1
        try clear p16
        try clear q16
        try clear hx16
        try clear hx164_0
        try clear p164
        try clear p2
        try clear q164
        obtain ⟨kq, x30_14, rfl, HA, HJ14, HO_4, HO_6, HO_18, HB⟩ := hcut
        cases kq with
        | zero => exact absurd HA.out (by simp [spec_l7Read.j1])
        | succ kj14 =>
         have H := HA.out
         clear HA
         simp only [spec_l7Read.j1] at H
         by_cases c18 : x30_14 = true
         ·subst c18
          have H1 : (some ((([] : List (S63))), false)) = some (r1, r2) := by rw [if_pos rfl] at H; exact H
          clear H
          have H := H1
          clear H1
          obtain ⟨y165, hy165⟩ : ∃ y_ : List (S63), y_ = (([] : List (S63))) := ⟨_, rfl⟩
          replace H : (some (y165, false)) = some (r1, r2) := by first | (rw [hy165]; with_reducible exact H) | (have H2_ := (Option.bind_some _ _).symm.trans H; rw [hy165]; with_reducible exact H2_) | (have H2_ := (Option.bind_some _ _).symm.trans H; with_reducible exact H2_) | with_reducible exact H | (rw [hy165]; exact H) | exact H
          have Ny165 := Az.mk hy165
          clear hy165
          simp only [Option.some.injEq, Prod.mk.injEq] at H
          obtain ⟨rfl, rfl⟩ := H
          go_wp2_with (first | ((with_reducible refine gate_dst (N := 31) rfl ?_); (try (refine gate_guard (by rfl) ?_; dsimp only)); refine Kd.R_lit k63 _ 63 ?hg (N := 31) ?hd (xs := ([] : List (S63))) (inner := []) (ok := fun _ => True) (okp := fun _ => True) ?hr ?hp (fun _ hk => hk) trivial (Below.refl _ _) (Nat.le_refl _) (by simp) ?_; (case hd => rfl); (case hg => rfl); (case hr => first | (go_simp; done) | (go_simp; rfl)); (case hp => exact (Reps.none _ _)); intro v166 w19 ho20 hb hg_ hnew_; clear hg_ hnew_; (first | rw [← Ny165.out] at ho20 | (simp only [Int.reduceToNat] at ho20; rw [← Ny165.out] at ho20)); have n0_ := Az.mk (Kd.R_elder' (by (with_reducible repeat first|apply Kd.Ra|apply Kd.Rn|apply Kd.Rw); exact HO_4.out) (Kd.R_base ho20) hb); have n1_ := Az.mk (Kd.Rb (by (with_reducible repeat first|apply Kd.Ra|apply Kd.Rn|apply Kd.Rw); exact HO_6.out) hb); have n2_ := Az.mk (Kd.Rb (by (with_reducible repeat first|apply Kd.Ra|apply Kd.Rn|apply Kd.Rw); exact HO_18.out) hb); have n3_ := Az.mk (Kd.R_lower (Kd.R_new' ho20 (Kd.R_lt (by (with_reducible repeat first|apply Kd.Ra|apply Kd.Rn|apply Kd.Rw); exact HO_4.out))) (bZ (by repeat first|exact HB.out|apply bA|apply bN|apply bD))); have n4_ := Az.mk (bS (by repeat first|exact HB.out|apply bA|apply bN|apply bD) hb); clear HO_4; clear HO_6; clear HO_18; clear HB; have HO_4 := n0_; have HO_6 := n1_; have HO_18 := n2_; have HO167 := n3_; have HB := n4_; clear n0_ n1_ n2_ n3_ n4_; clear hb ho20))
          go_ret2
          exact ⟨_, by first | rfl | (simp [errW_none, errW_some] <;> rfl) | (simp [*, errW_none, errW_some] <;> rfl), by (with_reducible repeat first|apply Kd.Ra|apply Kd.Rn|apply Kd.Rw); exact Kd.R_mono HO167.out (fun _ hk => trivial), by repeat (first | (with_reducible first|exact HB.out|apply bA|apply bN|apply bD) | exact HB.out)⟩
         ·replace c18 := Bool.eq_false_iff.mpr c18
          subst c18
          have H1 : (if 1 ≤ ((rdOf ByteArray.empty t161 x20_1).size : Int) then ((spec_l13Num.f kj14 ((rdOf ByteArray.empty t161 x20_1).extract 1 (rdOf ByteArray.empty t161 x20_1).size)).bind fun bt168 => (if 0 < ((rdOf ByteArray.empty t161 x20_1).size : Int) then (if bt168.2 = true then (if (bt (rdOf ByteArray.empty t161 x20_1) 0) = 43 then (spec_l7Read.j2 kj14 x4_1 x5_1 x6_1 bt168.1 t161 (t161.length : Int) x20_1 (bt168.1 == (wrap64 (x5_1 + 1))) (bt (rdOf ByteArray.empty t161 x20_1) 0) bt168.1) else (spec_l7Read.j2 kj14 x4_1 x5_1 x6_1 bt168.1 t161 (t161.length : Int) x20_1 false (bt (rdOf ByteArray.empty t161 x20_1) 0) bt168.1)) else (some ((([] : List (S63))), false))) else (none))) else (none)) = some (r1, r2) := by rw [if_neg (show ¬ (false = true) by decide)] at H; exact H
          clear H
          have H := H1
          clear H1
          by_cases c21 : 1 ≤ ((rdOf ByteArray.empty t161 x20_1).size : Int)
          ·rw [if_pos c21] at H
           have c21b0 := eq_true c21
           have c21b1 : decide (1 ≤ ((rdOf ByteArray.empty t161 x20_1).size : Int)) = true := decide_eq_true c21
           clear c21
           replace H := Option.bind_eq_some_iff.mp H
           obtain ⟨⟨t168, t169⟩, A220, H⟩ := H
           replace H : (if 0 < ((rdOf ByteArray.empty t161 x20_1).size : Int) then (if t169 = true then (if (bt (rdOf ByteArray.empty t161 x20_1) 0) = 43 then (spec_l7Read.j2 kj14 x4_1 x5_1 x6_1 t168 t161 (t161.length : Int) x20_1 (t168 == (wrap64 (x5_1 + 1))) (bt (rdOf ByteArray.empty t161 x20_1) 0) t168) else (spec_l7Read.j2 kj14 x4_1 x5_1 x6_1 t168 t161 (t161.length : Int) x20_1 false (bt (rdOf ByteArray.empty t161 x20_1) 0) t168)) else (some ((([] : List (S63))), false))) else (none)) = some (r1, r2) := H
           have A22 := Az.mk A220
           clear A220
           by_cases c23 : 0 < ((rdOf ByteArray.empty t161 x20_1).size : Int)
           ·rw [if_pos c23] at H
            have c23b0 : decide (0 < ((rdOf ByteArray.empty t161 x20_1).size : Int)) = true := decide_eq_true c23
            have c23b1 : decide (0 < (rdOf ByteArray.empty t161 x20_1).size) = true := decide_eq_true (by omega)
            clear c23
            by_cases c25 : t169 = true
            ·subst c25
             have H1 : (if (bt (rdOf ByteArray.empty t161 x20_1) 0) = 43 then (spec_l7Read.j2 kj14 x4_1 x5_1 x6_1 t168 t161 (t161.length : Int) x20_1 (t168 == (wrap64 (x5_1 + 1))) (bt (rdOf ByteArray.empty t161 x20_1) 0) t168) else (spec_l7Read.j2 kj14 x4_1 x5_1 x6_1 t168 t161 (t161.length : Int) x20_1 false (bt (rdOf ByteArray.empty t161 x20_1) 0) t168)) = some (r1, r2) := by rw [if_pos rfl] at H; exact H
             clear H
             have H := H1
             clear H1
             have HC26 := Az.mk H
             clear H
             go_upto_region 16 with (first | ((with_reducible refine gate_callee (f := 78) rfl ?_); refine goesL_ (some 35) rfl rfl Tryz.func78 (by kernel_rfl) rfl #[.string ((rdOf ByteArray.empty t161 x20_1).extract 1 (rdOf ByteArray.empty t161 x20_1).size)] rfl (by (try simp only [List.map_toArray, List.map_cons, List.map_nil]); first | done | rfl | (simp only [List.length_drop, List.length_take]; rfl)) ?_; (with_reducible refine (spec_l13Num.calls kj14 ((rdOf ByteArray.empty t161 x20_1).extract 1 (rdOf ByteArray.empty t161 x20_1).size) t168 true _ A22.out).mono ?_); rintro e w' ⟨rfl, ⟨nd, rfl⟩⟩; refine ⟨_, rfl, ?_⟩; (try (rw [drewN_self wc]; generalize hq_ : World.drewN wc _ = wc; have n0_ : Az (Kd.R Kd.string 9 wc w.heap.size (fun _ => True) (.slice (some ad164) t161.length co11) t161) := ⟨by rw [← hq_]; exact (by (with_reducible repeat first|apply Kd.Ra|apply Kd.Rn|apply Kd.Rw); exact HO_18.out)⟩; have n1_ : Az (Kd.R k63 63 wc w.heap.size (fun _ => True) u4 x4_1) := ⟨by rw [← hq_]; exact (by (with_reducible repeat first|apply Kd.Ra|apply Kd.Rn|apply Kd.Rw); exact HO_4.out)⟩; have n2_ : Az (Kd.R (Kd.int .i64) 3 wc w.heap.size (fun _ => True) u6 x6_1) := ⟨by rw [← hq_]; exact (by (with_reducible repeat first|apply Kd.Ra|apply Kd.Rn|apply Kd.Rw); exact HO_6.out)⟩; have n3_ : Az (Below w.heap.size w wc) := ⟨by rw [← hq_]; exact (by repeat first|exact HB.out|apply bA|apply bN|apply bD)⟩; clear HO_18 HO_4 HO_6 HB hq_; have HO_18 := n0_; have HO_4 := n1_; have HO_6 := n2_; have HB := n3_; clear n0_ n1_ n2_ n3_)); have p24 : 0 ≤ (0 : Int) := (by omega); have q24 : 0 < (rdOf ByteArray.empty t161 x20_1).size := (by have : (0 : Int) < ((rdOf ByteArray.empty t161 x20_1).size : Int) := of_decide_eq_true (by first|(with_reducible assumption)|assumption); omega); have hx24 : ∀ h : 0 < (rdOf ByteArray.empty t161 x20_1).size, (((rdOf ByteArray.empty t161 x20_1)[0]'h).toNat : Int) = bt (rdOf ByteArray.empty t161 x20_1) 0 := bt_at (rdOf ByteArray.empty t161 x20_1) 0; clear p24; have qi24 : (0 < ((rdOf ByteArray.empty t161 x20_1).size : Int)) = True := eq_true (of_decide_eq_true (by first|(with_reducible assumption)|assumption)); replace q24 := eq_true q24) | ((with_reducible refine gate_dst (N := 11) rfl ?_); (try (refine gate_guard (by rfl) ?_; dsimp only)); refine box_event ?hg (N := 11) ?hd (cs := #[.int .u8 0, .int .i64 0]) (t := 63) ?hr ?_; (case hd => rfl); (case hg => rfl); (case hr => first | (go_simp; done) | (go_simp; rfl)); intro gb170 hg w27 hbox hb; have n0_ := Az.mk (Kd.Rb (Kd.R_elderB (by (with_reducible repeat first|apply Kd.Ra|apply Kd.Rn|apply Kd.Rw); exact HO_4.out) gb170 (Nat.le_of_eq hg.symm)) hb); have n1_ := Az.mk (Kd.Rb (by (with_reducible repeat first|apply Kd.Ra|apply Kd.Rn|apply Kd.Rw); exact HO_6.out) hb); have n2_ := Az.mk (Kd.Rb (by (with_reducible repeat first|apply Kd.Ra|apply Kd.Rn|apply Kd.Rw); exact HO_18.out) hb); have n3_ := Az.mk (bS (by repeat first|exact HB.out|apply bA|apply bN|apply bD) hb); have n4_ := Az.mk (hbox); have n5_ := Az.mk ((by rw [hg]; exact (bZ (by repeat first|exact HB.out|apply bA|apply bN|apply bD)) : w.heap.size ≤ gb170)); have n6_ := Az.mk ((by rw [hg]; exact (bZ (by repeat first|exact HB.out|apply bA|apply bN|apply bD)) : w.heap.size ≤ gb170)); clear HO_4; clear HO_6; clear HO_18; clear HB; have HO_4 := n0_; have HO_6 := n1_; have HO_18 := n2_; have HB := n3_; have BK170 := n4_; have GW170 := n5_; have GE170 := n6_; clear n0_ n1_ n2_ n3_ n4_ n5_ n6_; clear hb hbox hg; have hcz28_0 : w27.cell? ⟨gb170, 0, none⟩ = some (.int .u8 0) := (blk_cell BK170.out 0).trans rfl; have hcz28_1 : w27.cell? ⟨gb170, 1, none⟩ = some (.int .i64 0) := (blk_cell BK170.out 1).trans rfl; have hfz28_0 := blk_frozen BK170.out 0; have hfz28_1 := blk_frozen BK170.out 1))
             (try simp only [Act.put, List.setIfInBounds_toArray, List.set_cons_zero, List.set_cons_succ])
             go_cut [47] (fun v47 wc => ∃ (kq : Nat) (x47_25 : Bool), v47 = .bool x47_25 ∧ Az (spec_l7Read.j2 kq x4_1 x5_1 x6_1 t168 t161 (t161.length : Int) x20_1 x47_25 (bt (rdOf ByteArray.empty t161 x20_1) 0) t168 = some (r1, r2)) ∧ Az (kq ≤ kj14) ∧ Az (Kd.R k63 63 wc w.heap.size (fun k_ => k_ ≠ gb170) u4 x4_1) ∧ Az (Kd.R (Kd.int .i64) 3 wc w.heap.size (fun _ => True) u6 x6_1) ∧ Az (Kd.R Kd.string 9 wc w.heap.size (fun _ => True) (.slice (some ad164) t161.length co11) t161) ∧ Az (wc.heap[gb170]? = some (.cells #[.int .u8 (bt (rdOf ByteArray.empty t161 x20_1) 0), .int .i64 t168] 63 (0, 0))) ∧ Az (Below w.heap.size w wc))
             case first =>
              have H := HC26.out
              clear HC26
              by_cases c29 : (bt (rdOf ByteArray.empty t161 x20_1) 0) = 43
              ·rw [if_pos c29] at H
               have c29b0 : ((bt (rdOf ByteArray.empty t161 x20_1) 0) == 43) = true := beq_iff_eq.mpr c29
               have c29b1 : ((bt (rdOf ByteArray.empty t161 x20_1) 0) != 43) = false := bne_eq_false_iff_eq.mpr c29
               clear c29
               (first | rw [c29b0] | (simp only [i64_w, i32_w]; rw [c29b0]) | skip)
               have H' := Az.mk H
               clear H
               have hcz30_0 : w27.cell? ⟨gb170, 0, none⟩ = some (.int .u8 0) := (blk_cell BK170.out 0).trans rfl
               have hcz30_1 : w27.cell? ⟨gb170, 1, none⟩ = some (.int .i64 0) := (blk_cell BK170.out 1).trans rfl
               have hfz30_0 := blk_frozen BK170.out 0
               have hfz30_1 := blk_frozen BK170.out 1
               go_wp2
               go_meet
               case rel => exact ⟨_, ((t168 == (wrap64 (x5_1 + 1)))), (by first | rfl | (simp; done) | (simp [*]; done)), H', ⟨by have := HK1.out; have := HJ14.out; first | omega | exact Nat.le_refl _⟩, ⟨by (with_reducible repeat first|apply Kd.Ra|apply Kd.Rn|apply Kd.Rw); exact Kd.R_mono (Kd.R_far (p := ⟨gb170, 1, none⟩) (Kd.R_far (p := ⟨gb170, 0, none⟩) (Kd.R_mono HO_4.out (fun k_ hk => (⟨hk, hk.2⟩ : _ ∧ k_ ≠ gb170))) (fun _ hk => hk.2) (.int .u8 (bt (rdOf ByteArray.empty t161 x20_1) 0))) (fun _ hk => hk.2) (.int .i64 t168)) (fun _ hk => hk.1.2)⟩, ⟨by (with_reducible repeat first|apply Kd.Ra|apply Kd.Rn|apply Kd.Rw); exact Kd.R_mono (Kd.R_far (p := ⟨gb170, 1, none⟩) (Kd.R_far (p := ⟨gb170, 0, none⟩) (Kd.R_types HO_6.out BK170.out (by decide)) (fun _ hk => hk.2) (.int .u8 (bt (rdOf ByteArray.empty t161 x20_1) 0))) (fun _ hk => hk.2) (.int .i64 t168)) (fun _ hk => trivial)⟩, ⟨by (with_reducible repeat first|apply Kd.Ra|apply Kd.Rn|apply Kd.Rw); exact Kd.R_mono (Kd.R_far (p := ⟨gb170, 1, none⟩) (Kd.R_far (p := ⟨gb170, 0, none⟩) (Kd.R_types HO_18.out BK170.out (by decide)) (fun _ hk => hk.2) (.int .u8 (bt (rdOf ByteArray.empty t161 x20_1) 0))) (fun _ hk => hk.2) (.int .i64 t168)) (fun _ hk => trivial)⟩, ⟨by (with_reducible repeat first|refine blN ?_ _|refine bl1 ?_|refine blA ?_ _); refine blk_put (cs := #[.int .u8 (bt (rdOf ByteArray.empty t161 x20_1) 0), .int .i64 0]) ?_ 1 _ rfl; (with_reducible repeat first|refine blN ?_ _|refine bl1 ?_|refine blA ?_ _); refine blk_put (cs := #[.int .u8 0, .int .i64 0]) ?_ 0 _ rfl; (with_reducible repeat first|refine blN ?_ _|refine bl1 ?_|refine blA ?_ _); exact BK170.out⟩, ⟨by repeat (first | (with_reducible first|exact HB.out|apply bA|apply bN|apply bD | refine below_set ?_ GE170.out) | exact HB.out)⟩⟩
              ·rw [if_neg c29] at H
               have c29b0 : ((bt (rdOf ByteArray.empty t161 x20_1) 0) == 43) = false := beq_eq_false_iff_ne.mpr c29
               have c29b1 : ((bt (rdOf ByteArray.empty t161 x20_1) 0) != 43) = true := bne_iff_ne.mpr c29
               (first | rw [c29b0] | (simp only [i64_w, i32_w]; rw [c29b0]) | skip)
               have H' := Az.mk H
               clear H
               have hcz31_0 : w27.cell? ⟨gb170, 0, none⟩ = some (.int .u8 0) := (blk_cell BK170.out 0).trans rfl
               have hcz31_1 : w27.cell? ⟨gb170, 1, none⟩ = some (.int .i64 0) := (blk_cell BK170.out 1).trans rfl
               have hfz31_0 := blk_frozen BK170.out 0
               have hfz31_1 := blk_frozen BK170.out 1
               go_wp2
               go_meet
               case rel => exact ⟨_, (false), (by first | rfl | (simp; done) | (simp [*]; done)), H', ⟨by have := HK1.out; have := HJ14.out; first | omega | exact Nat.le_refl _⟩, ⟨by (with_reducible repeat first|apply Kd.Ra|apply Kd.Rn|apply Kd.Rw); exact Kd.R_mono (Kd.R_far (p := ⟨gb170, 1, none⟩) (Kd.R_far (p := ⟨gb170, 0, none⟩) (Kd.R_mono HO_4.out (fun k_ hk => (⟨hk, hk.2⟩ : _ ∧ k_ ≠ gb170))) (fun _ hk => hk.2) (.int .u8 (bt (rdOf ByteArray.empty t161 x20_1) 0))) (fun _ hk => hk.2) (.int .i64 t168)) (fun _ hk => hk.1.2)⟩, ⟨by (with_reducible repeat first|apply Kd.Ra|apply Kd.Rn|apply Kd.Rw); exact Kd.R_mono (Kd.R_far (p := ⟨gb170, 1, none⟩) (Kd.R_far (p := ⟨gb170, 0, none⟩) (Kd.R_types HO_6.out BK170.out (by decide)) (fun _ hk => hk.2) (.int .u8 (bt (rdOf ByteArray.empty t161 x20_1) 0))) (fun _ hk => hk.2) (.int .i64 t168)) (fun _ hk => trivial)⟩, ⟨by (with_reducible repeat first|apply Kd.Ra|apply Kd.Rn|apply Kd.Rw); exact Kd.R_mono (Kd.R_far (p := ⟨gb170, 1, none⟩) (Kd.R_far (p := ⟨gb170, 0, none⟩) (Kd.R_types HO_18.out BK170.out (by decide)) (fun _ hk => hk.2) (.int .u8 (bt (rdOf ByteArray.empty t161 x20_1) 0))) (fun _ hk => hk.2) (.int .i64 t168)) (fun _ hk => trivial)⟩, ⟨by (with_reducible repeat first|refine blN ?_ _|refine bl1 ?_|refine blA ?_ _); refine blk_put (cs := #[.int .u8 (bt (rdOf ByteArray.empty t161 x20_1) 0), .int .i64 0]) ?_ 1 _ rfl; (with_reducible repeat first|refine blN ?_ _|refine bl1 ?_|refine blA ?_ _); refine blk_put (cs := #[.int .u8 0, .int .i64 0]) ?_ 0 _ rfl; (with_reducible repeat first|refine blN ?_ _|refine bl1 ?_|refine blA ?_ _); exact BK170.out⟩, ⟨by repeat (first | (with_reducible first|exact HB.out|apply bA|apply bN|apply bD | refine below_set ?_ GE170.out) | exact HB.out)⟩⟩
             case rest =>
              clear HC26
              try clear c1
              try clear p1
              try clear q1
              try clear hx1
              try clear c2
              try clear c2b0
              try clear c2b1
              try clear p2
              try clear q2
              try clear hx2
              try clear qi2
              try clear c5
              try clear p6
              try clear c7
              try clear c12
              try clear c12b0
              try clear c13
              try clear c13b0
              try clear c14
              try clear c14b0
              try clear c16
              try clear c16b0
              try clear c16b1
              try clear p16
              try clear q16
              try clear hx16
              try clear c18
              try clear c21
              try clear c21b0
              try clear c21b1
              try clear c23
              try clear c23b0
              try clear c23b1
              try clear p24
              try clear q24
              try clear hx24
              try clear qi24
              try clear c25
              try clear c29
              try clear c29b0
              try clear c29b1
              try clear hcz28_0
              try clear hcz28_1
              try clear hcz30_0
              try clear hcz30_1
              try clear hcz31_0
              try clear hcz31_1
              try clear hfz28_0
              try clear hfz28_1
              try clear hfz30_0
              try clear hfz30_1
              try clear hfz31_0
              try clear hfz31_1
              try clear hx164_0
              try clear p1
              try clear p16
              try clear p164
              try clear p2
              try clear p24
              try clear q1
              try clear q16
              try clear q164
              try clear q24
              obtain ⟨kq, x47_25, rfl, HA, HJ25, HO_4, HO_6, HO_18, BK170, HB⟩ := hcut
              cases kq with
              | zero => exact absurd HA.out (by simp [spec_l7Read.j2])
              | succ kj25 =>
               have H := HA.out
               clear HA
               simp only [spec_l7Read.j2] at H
               by_cases c32 : x47_25 = true
               ·subst c32
                have H1 : (if x6_1.length < 17592186044416 then (if x4_1.length < 8796093022208 then (spec_l7Read.l0 kj25 (x4_1 ++ [(⟨(bt (rdOf ByteArray.empty t161 x20_1) 0), t168⟩ : S63)]) t168 (x6_1 ++ [t168]) t161 (t161.length : Int) (wrap64 (x20_1 + 1))) else (none)) else (none)) = some (r1, r2) := by rw [if_pos rfl] at H; exact H
                clear H
                have H := H1
                clear H1
                by_cases c33 : x6_1.length < 17592186044416
                ·rw [if_pos c33] at H
                 have LMc33 := Az.mk c33
                 clear c33
                 obtain ⟨y171, hy171⟩ : ∃ y_ : List Int, y_ = (x6_1 ++ [t168]) := ⟨_, rfl⟩
                 replace H : (if x4_1.length < 8796093022208 then (spec_l7Read.l0 kj25 (x4_1 ++ [(⟨(bt (rdOf ByteArray.empty t161 x20_1) 0), t168⟩ : S63)]) t168 y171 t161 (t161.length : Int) (wrap64 (x20_1 + 1))) else (none)) = some (r1, r2) := by first | (rw [hy171]; with_reducible exact H) | (have H2_ := (Option.bind_some _ _).symm.trans H; rw [hy171]; with_reducible exact H2_) | (have H2_ := (Option.bind_some _ _).symm.trans H; with_reducible exact H2_) | with_reducible exact H | (rw [hy171]; exact H) | exact H
                 have Ny171 := Az.mk hy171
                 clear hy171
                 by_cases c34 : x4_1.length < 8796093022208
                 ·rw [if_pos c34] at H
                  have LMc34 := Az.mk c34
                  clear c34
                  obtain ⟨y174, hy174⟩ : ∃ y_ : List (S63), y_ = (x4_1 ++ [(⟨(bt (rdOf ByteArray.empty t161 x20_1) 0), t168⟩ : S63)]) := ⟨_, rfl⟩
                  replace H : (spec_l7Read.l0 kj25 y174 t168 y171 t161 (t161.length : Int) (wrap64 (x20_1 + 1))) = some (r1, r2) := by first | (rw [hy174]; with_reducible exact H) | (have H2_ := (Option.bind_some _ _).symm.trans H; rw [hy174]; with_reducible exact H2_) | (have H2_ := (Option.bind_some _ _).symm.trans H; with_reducible exact H2_) | with_reducible exact H | (rw [hy174]; exact H) | exact H
                  have Ny174 := Az.mk hy174
                  clear hy174
                  have H' := Az.mk H
                  clear H
                  go_wp2_with (first | ((with_reducible refine gate_builtin (b := .append) (xs := #[.tmp 58, .tmp 60]) rfl ?_); (try (refine gate_guard (by rfl) ?_; dsimp only)); at_builtin; refine Kd.R_append (Kd.int .i64) (w0 := w) w.heap.size rfl (.tmp 58) (.tmp 60) 33 3 (.int .i64 0) 8 rfl Tryz.underlying33 info3 rfl (by decide) (by omega) u6 x6_1 t168 [.int .i64 t168] (fun _ => True) (fun _ => False) rfl rfl ?aP (fun _ hk => hk.elim) ?aF ?aO ?aB ?aS ?aL ?_; (case aP => exact rfl); (case aB => exact (by repeat (first | (with_reducible first|exact HB.out|apply bA|apply bN|apply bD | refine below_set ?_ GE170.out) | exact HB.out))); (case aF => exact (fun _ _ => trivial)); (case aO => exact (by (with_reducible repeat first|apply Kd.Ra|apply Kd.Rn|apply Kd.Rw); exact HO_6.out)); (case aS => exact (bZ (by repeat (first | (with_reducible first|exact HB.out|apply bA|apply bN|apply bD | refine below_set ?_ GE170.out) | exact HB.out)))); (case aL => have := LMc33.out; omega); intro v172 w35 ho hb hg hat; rw [← Ny171.out] at ho; have n0_ := Az.mk (Kd.R_over' (by (with_reducible repeat first|apply Kd.Ra|apply Kd.Rn|apply Kd.Rw); exact HO_4.out) (Kd.R_typed (by (with_reducible repeat first|apply Kd.Ra|apply Kd.Rn|apply Kd.Rw); exact HO_6.out)) (by decide) hg); have n1_ := Az.mk (Kd.R_over' (by (with_reducible repeat first|apply Kd.Ra|apply Kd.Rn|apply Kd.Rw); exact HO_18.out) (Kd.R_typed (by (with_reducible repeat first|apply Kd.Ra|apply Kd.Rn|apply Kd.Rw); exact HO_6.out)) (by decide) hg); have n2_ := Az.mk (blk_grown (g := gb170) (o := .cells #[.int .u8 (bt (rdOf ByteArray.empty t161 x20_1) 0), .int .i64 t168] 63 (0, 0)) (by (with_reducible repeat first|refine blN ?_ _|refine bl1 ?_|refine blA ?_ _); exact BK170.out) hg (Kd.R_ne HO_6.out BK170.out (by decide))); have n3_ := Az.mk (hb); have n4_ := Az.mk (ho); clear HO_4; clear HO_18; clear BK170; clear HB; clear HO_6; have HO_4 := n0_; have HO_18 := n1_; have BK170 := n2_; have HB := n3_; have HO173 := n4_; clear n0_ n1_ n2_ n3_ n4_; clear ho hb hg hat; have hcz36_0 : w35.cell? ⟨gb170, 0, none⟩ = some (.int .u8 (bt (rdOf ByteArray.empty t161 x20_1) 0)) := (blk_cell BK170.out 0).trans rfl; have hcz36_1 : w35.cell? ⟨gb170, 1, none⟩ = some (.int .i64 t168) := (blk_cell BK170.out 1).trans rfl; have hfz36_0 := blk_frozen BK170.out 0; have hfz36_1 := blk_frozen BK170.out 1) | ((with_reducible refine gate_builtin (b := .append) (xs := #[.tmp 83, .tmp 85]) rfl ?_); (try (refine gate_guard (by rfl) ?_; dsimp only)); at_builtin; refine Kd.R_append k63 (w0 := w) w.heap.size rfl (.tmp 83) (.tmp 85) 58 63 (.agg #[(.int .u8 0), (.int .i64 0)]) 16 rfl Tryz.underlying58 info63 rfl (by decide) (by omega) u4 x4_1 (⟨(bt (rdOf ByteArray.empty t161 x20_1) 0), t168⟩ : S63) [.int .u8 (bt (rdOf ByteArray.empty t161 x20_1) 0), .int .i64 t168] (fun k_ => k_ ≠ gb170) (fun _ => False) rfl rfl ?aP (fun _ hk => hk.elim) ?aF ?aO ?aB ?aS ?aL ?_; (case aP => exact k63_mkM _ _ _ (⟨(bt (rdOf ByteArray.empty t161 x20_1) 0), t168⟩ : S63)); (case aB => exact (by repeat (first | (with_reducible first|exact HB.out|apply bA|apply bN|apply bD | refine below_set ?_ GE170.out) | exact HB.out))); (case aF => exact (fun k_ hk => Kd.freshB (g := gb170) (o := .cells #[.int .u8 (bt (rdOf ByteArray.empty t161 x20_1) 0), .int .i64 t168] 63 (0, 0)) (by (with_reducible repeat first|refine blN ?_ _|refine bl1 ?_|refine blA ?_ _); exact BK170.out) k_ hk)); (case aO => exact (by (with_reducible repeat first|apply Kd.Ra|apply Kd.Rn|apply Kd.Rw); exact HO_4.out)); (case aS => exact (bZ (by repeat (first | (with_reducible first|exact HB.out|apply bA|apply bN|apply bD | refine below_set ?_ GE170.out) | exact HB.out)))); (case aL => have := LMc34.out; omega); intro v175 w37 ho hb hg hat; rw [← Ny174.out] at ho; have n0_ := Az.mk (Kd.R_over' (by (with_reducible repeat first|apply Kd.Ra|apply Kd.Rn|apply Kd.Rw); exact HO_18.out) (Kd.R_typed (by (with_reducible repeat first|apply Kd.Ra|apply Kd.Rn|apply Kd.Rw); exact HO_4.out)) (by decide) hg); have n1_ := Az.mk (blk_grown (g := gb170) (o := .cells #[.int .u8 (bt (rdOf ByteArray.empty t161 x20_1) 0), .int .i64 t168] 63 (0, 0)) (by (with_reducible repeat first|refine blN ?_ _|refine bl1 ?_|refine blA ?_ _); exact BK170.out) hg (Kd.R_away HO_4.out (fun _ hk => hk))); have n2_ := Az.mk (Kd.R_over' (by (with_reducible repeat first|apply Kd.Ra|apply Kd.Rn|apply Kd.Rw); exact HO173.out) (Kd.R_typed (by (with_reducible repeat first|apply Kd.Ra|apply Kd.Rn|apply Kd.Rw); exact HO_4.out)) (by decide) hg); have n3_ := Az.mk (hb); have n4_ := Az.mk (ho); clear HO_18; clear BK170; clear HO173; clear HB; clear HO_4; have HO_18 := n0_; have BK170 := n1_; have HO173 := n2_; have HB := n3_; have HO176 := n4_; clear n0_ n1_ n2_ n3_ n4_; clear ho hb hg hat))
                  go_roundg kj25
                  case measure => have := HK1.out; have := HJ14.out; have := HJ25.out; omega
                  case rel => exact ⟨(y174), (t168), (y171), (wrap64 (x20_1 + 1)), (by first | rfl | (simp; done) | (simp [*]; done)), (by first | rfl | (simp; done) | (simp [*]; done)), H', ⟨by have := HK1.out; have := HJ14.out; have := HJ25.out; omega⟩, ⟨by (with_reducible repeat first|apply Kd.Ra|apply Kd.Rn|apply Kd.Rw); exact Kd.R_mono HO176.out (fun _ hk => trivial)⟩, ⟨by (with_reducible repeat first|apply Kd.Ra|apply Kd.Rn|apply Kd.Rw); exact HO173.out⟩, ⟨by (with_reducible repeat first|apply Kd.Ra|apply Kd.Rn|apply Kd.Rw); exact HO_18.out⟩, ⟨by repeat (first | (with_reducible first|exact HB.out|apply bA|apply bN|apply bD | refine below_set ?_ GE170.out) | exact HB.out)⟩⟩
                 ·rw [if_neg c34] at H
                  exact absurd H (by simp)
                ·rw [if_neg c33] at H
                 exact absurd H (by simp)
               ·replace c32 := Bool.eq_false_iff.mpr c32
                subst c32
                have H1 : (if (bt (rdOf ByteArray.empty t161 x20_1) 0) = 46 then ((spec_l7In.f kj25 x6_1 t168).bind fun t177 => (spec_l7Read.j3 kj25 x4_1 x5_1 x6_1 t168 t161 (t161.length : Int) x20_1 t177 (bt (rdOf ByteArray.empty t161 x20_1) 0) t168)) else (spec_l7Read.j3 kj25 x4_1 x5_1 x6_1 t168 t161 (t161.length : Int) x20_1 false (bt (rdOf ByteArray.empty t161 x20_1) 0) t168)) = some (r1, r2) := by rw [if_neg (show ¬ (false = true) by decide)] at H; exact H
                clear H
                have H := H1
                clear H1
                have HC38 := Az.mk H
                clear H
                go_upto_region 19 with (fail)
                go_cut [62] (fun v62 wc => ∃ (kq : Nat) (x62_37 : Bool), v62 = .bool x62_37 ∧ Az (spec_l7Read.j3 kq x4_1 x5_1 x6_1 t168 t161 (t161.length : Int) x20_1 x62_37 (bt (rdOf ByteArray.empty t161 x20_1) 0) t168 = some (r1, r2)) ∧ Az (kq ≤ kj25) ∧ Az (Kd.R k63 63 wc w.heap.size (fun k_ => k_ ≠ gb170) u4 x4_1) ∧ Az (Kd.R (Kd.int .i64) 3 wc w.heap.size (fun _ => True) u6 x6_1) ∧ Az (Kd.R Kd.string 9 wc w.heap.size (fun _ => True) (.slice (some ad164) t161.length co11) t161) ∧ Az (wc.heap[gb170]? = some (.cells #[.int .u8 (bt (rdOf ByteArray.empty t161 x20_1) 0), .int .i64 t168] 63 (0, 0))) ∧ Az (Below w.heap.size w wc))
                case first =>
                 have H := HC38.out
                 clear HC38
                 by_cases c39 : (bt (rdOf ByteArray.empty t161 x20_1) 0) = 46
                 ·rw [if_pos c39] at H
                  have c39b0 : ((bt (rdOf ByteArray.empty t161 x20_1) 0) == 46) = true := beq_iff_eq.mpr c39
                  have c39b1 : ((bt (rdOf ByteArray.empty t161 x20_1) 0) != 46) = false := bne_eq_false_iff_eq.mpr c39
                  clear c39
                  (first | rw [c39b0] | (simp only [i64_w, i32_w]; rw [c39b0]) | skip)
                  replace H := Option.bind_eq_some_iff.mp H
                  obtain ⟨t177, A400, H⟩ := H
                  replace H : (spec_l7Read.j3 kj25 x4_1 x5_1 x6_1 t168 t161 (t161.length : Int) x20_1 t177 (bt (rdOf ByteArray.empty t161 x20_1) 0) t168) = some (r1, r2) := H
                  have A40 := Az.mk A400
                  clear A400
                  have H' := Az.mk H
                  clear H
                  have hcz41_0 : wc.cell? ⟨gb170, 0, none⟩ = some (.int .u8 (bt (rdOf ByteArray.empty t161 x20_1) 0)) := (blk_cell BK170.out 0).trans rfl
                  have hcz41_1 : wc.cell? ⟨gb170, 1, none⟩ = some (.int .i64 t168) := (blk_cell BK170.out 1).trans rfl
                  have hfz41_0 := blk_frozen BK170.out 0
                  have hfz41_1 := blk_frozen BK170.out 1
                  obtain ⟨Ao42, co42, eo42⟩ := Kd.R_slice HO_6.out
                  subst eo42
                  go_wp2_with (first | (go_at_call 79; (with_reducible refine (spec_l7In.calls kj25 _ _ x6_1 t168 t177 _ ?side1 ?side2 A40.out).mono ?_); (case side1 => repeat (first | exact (Kd.R_reads' HO_6.out).2.2 | (with_reducible refine Kd.C_alloc ?_ _) | (with_reducible refine Kd.C_drewN ?_ _) | (with_reducible refine Kd.C_drew ?_))); (case side2 => exact (Kd.R_reads' HO_6.out).2.1); rintro e w' ⟨rfl, ⟨nd, rfl⟩⟩))
                  go_meet
                  case rel => exact ⟨_, (t177), (by first | rfl | (simp; done) | (simp [*]; done)), H', ⟨by have := HK1.out; have := HJ14.out; have := HJ25.out; first | omega | exact Nat.le_refl _⟩, ⟨by (with_reducible repeat first|apply Kd.Ra|apply Kd.Rn|apply Kd.Rw); exact HO_4.out⟩, ⟨by (with_reducible repeat first|apply Kd.Ra|apply Kd.Rn|apply Kd.Rw); exact HO_6.out⟩, ⟨by (with_reducible repeat first|apply Kd.Ra|apply Kd.Rn|apply Kd.Rw); exact HO_18.out⟩, ⟨by (with_reducible repeat first|refine blN ?_ _|refine bl1 ?_|refine blA ?_ _); exact BK170.out⟩, ⟨by repeat (first | (with_reducible first|exact HB.out|apply bA|apply bN|apply bD | refine below_set ?_ GE170.out) | exact HB.out)⟩⟩
                 ·rw [if_neg c39] at H
                  have c39b0 : ((bt (rdOf ByteArray.empty t161 x20_1) 0) == 46) = false := beq_eq_false_iff_ne.mpr c39
                  have c39b1 : ((bt (rdOf ByteArray.empty t161 x20_1) 0) != 46) = true := bne_iff_ne.mpr c39
                  (first | rw [c39b0] | (simp only [i64_w, i32_w]; rw [c39b0]) | skip)
                  have H' := Az.mk H
                  clear H
                  have hcz43_0 : wc.cell? ⟨gb170, 0, none⟩ = some (.int .u8 (bt (rdOf ByteArray.empty t161 x20_1) 0)) := (blk_cell BK170.out 0).trans rfl
                  have hcz43_1 : wc.cell? ⟨gb170, 1, none⟩ = some (.int .i64 t168) := (blk_cell BK170.out 1).trans rfl
                  have hfz43_0 := blk_frozen BK170.out 0
                  have hfz43_1 := blk_frozen BK170.out 1
                  go_wp2
                  go_meet
                  case rel => exact ⟨_, (false), (by first | rfl | (simp; done) | (simp [*]; done)), H', ⟨by have := HK1.out; have := HJ14.out; have := HJ25.out; first | omega | exact Nat.le_refl _⟩, ⟨by (with_reducible repeat first|apply Kd.Ra|apply Kd.Rn|apply Kd.Rw); exact HO_4.out⟩, ⟨by (with_reducible repeat first|apply Kd.Ra|apply Kd.Rn|apply Kd.Rw); exact HO_6.out⟩, ⟨by (with_reducible repeat first|apply Kd.Ra|apply Kd.Rn|apply Kd.Rw); exact HO_18.out⟩, ⟨by (with_reducible repeat first|refine blN ?_ _|refine bl1 ?_|refine blA ?_ _); exact BK170.out⟩, ⟨by repeat (first | (with_reducible first|exact HB.out|apply bA|apply bN|apply bD | refine below_set ?_ GE170.out) | exact HB.out)⟩⟩
                case rest =>
                 clear HC38
                 try clear c1
                 try clear p1
                 try clear q1
                 try clear hx1
                 try clear c2
                 try clear c2b0
                 try clear c2b1
                 try clear p2
                 try clear q2
                 try clear hx2
                 try clear qi2
                 try clear c3
                 try clear c5
                 try clear p6
                 try clear c7
                 try clear c12
                 try clear c12b0
                 try clear c13
                 try clear c13b0
                 try clear c14
                 try clear c14b0
                 try clear c16
                 try clear c16b0
                 try clear c16b1
                 try clear p16
                 try clear q16
                 try clear hx16
                 try clear c18
                 try clear c21
                 try clear c21b0
                 try clear c21b1
                 try clear c23
                 try clear c23b0
                 try clear c23b1
                 try clear p24
                 try clear q24
                 try clear hx24
                 try clear qi24
                 try clear c25
                 try clear c29
                 try clear c29b0
                 try clear c29b1
                 try clear c32
                 try clear c33
                 try clear c34
                 try clear c39
                 try clear c39b0
                 try clear c39b1
                 try clear hcz28_0
                 try clear hcz28_1
                 try clear hcz30_0
                 try clear hcz30_1
                 try clear hcz31_0
                 try clear hcz31_1
                 try clear hcz36_0
                 try clear hcz36_1
                 try clear hcz41_0
                 try clear hcz41_1
                 try clear hcz43_0
                 try clear hcz43_1
                 try clear hfz28_0
                 try clear hfz28_1
                 try clear hfz30_0
                 try clear hfz30_1
                 try clear hfz31_0
                 try clear hfz31_1
                 try clear hfz36_0
                 try clear hfz36_1
                 try clear hfz41_0
                 try clear hfz41_1
                 try clear hfz43_0
                 try clear hfz43_1
                 try clear hx164_0
                 try clear p1
                 try clear p16
                 try clear p164
                 try clear p2
                 try clear p24
                 try clear p6
                 try clear q1
                 try clear q16
                 try clear q164
                 try clear q2
                 try clear q24
                 obtain ⟨kq, x62_37, rfl, HA, HJ37, HO_4, HO_6, HO_18, BK170, HB⟩ := hcut
                 cases kq with
                 | zero => exact absurd HA.out (by simp [spec_l7Read.j3])
                 | succ kj37 =>
                  have H := HA.out
                  clear HA
                  simp only [spec_l7Read.j3] at H
                  by_cases c44 : x62_37 = true
                  ·subst c44
                   have H1 : (if x4_1.length < 8796093022208 then (spec_l7Read.l0 kj37 (x4_1 ++ [(⟨(bt (rdOf ByteArray.empty t161 x20_1) 0), t168⟩ : S63)]) x5_1 x6_1 t161 (t161.length : Int) (wrap64 (x20_1 + 1))) else (none)) = some (r1, r2) := by rw [if_pos rfl] at H; exact H
                   clear H
                   have H := H1
                   clear H1
                   by_cases c45 : x4_1.length < 8796093022208
                   ·rw [if_pos c45] at H
                    have LMc45 := Az.mk c45
                    clear c45
                    obtain ⟨y178, hy178⟩ : ∃ y_ : List (S63), y_ = (x4_1 ++ [(⟨(bt (rdOf ByteArray.empty t161 x20_1) 0), t168⟩ : S63)]) := ⟨_, rfl⟩
                    replace H : (spec_l7Read.l0 kj37 y178 x5_1 x6_1 t161 (t161.length : Int) (wrap64 (x20_1 + 1))) = some (r1, r2) := by first | (rw [hy178]; with_reducible exact H) | (have H2_ := (Option.bind_some _ _).symm.trans H; rw [hy178]; with_reducible exact H2_) | (have H2_ := (Option.bind_some _ _).symm.trans H; with_reducible exact H2_) | with_reducible exact H | (rw [hy178]; exact H) | exact H
                    have Ny178 := Az.mk hy178
                    clear hy178
                    have H' := Az.mk H
                    clear H
                    have hcz46_0 : wc.cell? ⟨gb170, 0, none⟩ = some (.int .u8 (bt (rdOf ByteArray.empty t161 x20_1) 0)) := (blk_cell BK170.out 0).trans rfl
                    have hcz46_1 : wc.cell? ⟨gb170, 1, none⟩ = some (.int .i64 t168) := (blk_cell BK170.out 1).trans rfl
                    have hfz46_0 := blk_frozen BK170.out 0
                    have hfz46_1 := blk_frozen BK170.out 1
                    go_wp2_with (first | ((with_reducible refine gate_builtin (b := .append) (xs := #[.tmp 83, .tmp 85]) rfl ?_); (try (refine gate_guard (by rfl) ?_; dsimp only)); at_builtin; refine Kd.R_append k63 (w0 := w) w.heap.size rfl (.tmp 83) (.tmp 85) 58 63 (.agg #[(.int .u8 0), (.int .i64 0)]) 16 rfl Tryz.underlying58 info63 rfl (by decide) (by omega) u4 x4_1 (⟨(bt (rdOf ByteArray.empty t161 x20_1) 0), t168⟩ : S63) [.int .u8 (bt (rdOf ByteArray.empty t161 x20_1) 0), .int .i64 t168] (fun k_ => k_ ≠ gb170) (fun _ => False) rfl rfl ?aP (fun _ hk => hk.elim) ?aF ?aO ?aB ?aS ?aL ?_; (case aP => exact k63_mkM _ _ _ (⟨(bt (rdOf ByteArray.empty t161 x20_1) 0), t168⟩ : S63)); (case aB => exact (by repeat (first | (with_reducible first|exact HB.out|apply bA|apply bN|apply bD | refine below_set ?_ GE170.out) | exact HB.out))); (case aF => exact (fun k_ hk => Kd.freshB (g := gb170) (o := .cells #[.int .u8 (bt (rdOf ByteArray.empty t161 x20_1) 0), .int .i64 t168] 63 (0, 0)) (by (with_reducible repeat first|refine blN ?_ _|refine bl1 ?_|refine blA ?_ _); exact BK170.out) k_ hk)); (case aO => exact (by (with_reducible repeat first|apply Kd.Ra|apply Kd.Rn|apply Kd.Rw); exact HO_4.out)); (case aS => exact (bZ (by repeat (first | (with_reducible first|exact HB.out|apply bA|apply bN|apply bD | refine below_set ?_ GE170.out) | exact HB.out)))); (case aL => have := LMc45.out; omega); intro v179 w47 ho hb hg hat; rw [← Ny178.out] at ho; have n0_ := Az.mk (Kd.R_over' (by (with_reducible repeat first|apply Kd.Ra|apply Kd.Rn|apply Kd.Rw); exact HO_6.out) (Kd.R_typed (by (with_reducible repeat first|apply Kd.Ra|apply Kd.Rn|apply Kd.Rw); exact HO_4.out)) (by decide) hg); have n1_ := Az.mk (Kd.R_over' (by (with_reducible repeat first|apply Kd.Ra|apply Kd.Rn|apply Kd.Rw); exact HO_18.out) (Kd.R_typed (by (with_reducible repeat first|apply Kd.Ra|apply Kd.Rn|apply Kd.Rw); exact HO_4.out)) (by decide) hg); have n2_ := Az.mk (blk_grown (g := gb170) (o := .cells #[.int .u8 (bt (rdOf ByteArray.empty t161 x20_1) 0), .int .i64 t168] 63 (0, 0)) (by (with_reducible repeat first|refine blN ?_ _|refine bl1 ?_|refine blA ?_ _); exact BK170.out) hg (Kd.R_away HO_4.out (fun _ hk => hk))); have n3_ := Az.mk (hb); have n4_ := Az.mk (ho); clear HO_6; clear HO_18; clear BK170; clear HB; clear HO_4; have HO_6 := n0_; have HO_18 := n1_; have BK170 := n2_; have HB := n3_; have HO180 := n4_; clear n0_ n1_ n2_ n3_ n4_; clear ho hb hg hat))
                    go_roundg kj37
                    case measure => have := HK1.out; have := HJ14.out; have := HJ25.out; have := HJ37.out; omega
                    case rel => exact ⟨(y178), (x5_1), (x6_1), (wrap64 (x20_1 + 1)), (by first | rfl | (simp; done) | (simp [*]; done)), (by first | rfl | (simp; done) | (simp [*]; done)), H', ⟨by have := HK1.out; have := HJ14.out; have := HJ25.out; have := HJ37.out; omega⟩, ⟨by (with_reducible repeat first|apply Kd.Ra|apply Kd.Rn|apply Kd.Rw); exact Kd.R_mono HO180.out (fun _ hk => trivial)⟩, ⟨by (with_reducible repeat first|apply Kd.Ra|apply Kd.Rn|apply Kd.Rw); exact HO_6.out⟩, ⟨by (with_reducible repeat first|apply Kd.Ra|apply Kd.Rn|apply Kd.Rw); exact HO_18.out⟩, ⟨by repeat (first | (with_reducible first|exact HB.out|apply bA|apply bN|apply bD | refine below_set ?_ GE170.out) | exact HB.out)⟩⟩
                   ·rw [if_neg c45] at H
                    exact absurd H (by simp)
                  ·replace c44 := Bool.eq_false_iff.mpr c44
                   subst c44
                   have H1 : (if (bt (rdOf ByteArray.empty t161 x20_1) 0) = 45 then ((spec_l7In.f kj37 x6_1 t168).bind fun t181 => (if t181 = true then ((spec_l7Without.f kj37 x6_1 t168).bind fun t182 => (if x4_1.length < 8796093022208 then (spec_l7Read.l0 kj37 (x4_1 ++ [(⟨(bt (rdOf ByteArray.empty t161 x20_1) 0), t168⟩ : S63)]) x5_1 t182 t161 (t161.length : Int) (wrap64 (x20_1 + 1))) else (none))) else (some ((([] : List (S63))), false)))) else (some ((([] : List (S63))), false))) = some (r1, r2) := by rw [if_neg (show ¬ (false = true) by decide)] at H; exact H
                   clear H
                   have H := H1
                   clear H1
                   by_cases c48 : (bt (rdOf ByteArray.empty t161 x20_1) 0) = 45
                   ·rw [if_pos c48] at H
                    have c48b0 : ((bt (rdOf ByteArray.empty t161 x20_1) 0) == 45) = true := beq_iff_eq.mpr c48
                    have c48b1 : ((bt (rdOf ByteArray.empty t161 x20_1) 0) != 45) = false := bne_eq_false_iff_eq.mpr c48
                    clear c48
                    replace H := Option.bind_eq_some_iff.mp H
                    obtain ⟨t181, A490, H⟩ := H
                    replace H : (if t181 = true then ((spec_l7Without.f kj37 x6_1 t168).bind fun t182 => (if x4_1.length < 8796093022208 then (spec_l7Read.l0 kj37 (x4_1 ++ [(⟨(bt (rdOf ByteArray.empty t161 x20_1) 0), t168⟩ : S63)]) x5_1 t182 t161 (t161.length : Int) (wrap64 (x20_1 + 1))) else (none))) else (some ((([] : List (S63))), false))) = some (r1, r2) := H
                    have A49 := Az.mk A490
                    clear A490
                    by_cases c50 : t181 = true
                    ·subst c50
                     have H1 : ((spec_l7Without.f kj37 x6_1 t168).bind fun t182 => (if x4_1.length < 8796093022208 then (spec_l7Read.l0 kj37 (x4_1 ++ [(⟨(bt (rdOf ByteArray.empty t161 x20_1) 0), t168⟩ : S63)]) x5_1 t182 t161 (t161.length : Int) (wrap64 (x20_1 + 1))) else (none))) = some (r1, r2) := by rw [if_pos rfl] at H; exact H
                     clear H
                     have H := H1
                     clear H1
                     replace H := Option.bind_eq_some_iff.mp H
                     obtain ⟨t182, A510, H⟩ := H
                     replace H : (if x4_1.length < 8796093022208 then (spec_l7Read.l0 kj37 (x4_1 ++ [(⟨(bt (rdOf ByteArray.empty t161 x20_1) 0), t168⟩ : S63)]) x5_1 t182 t161 (t161.length : Int) (wrap64 (x20_1 + 1))) else (none)) = some (r1, r2) := H
                     have A51 := Az.mk A510
                     clear A510
                     by_cases c52 : x4_1.length < 8796093022208
                     ·rw [if_pos c52] at H
                      have LMc52 := Az.mk c52
                      clear c52
                      obtain ⟨y185, hy185⟩ : ∃ y_ : List (S63), y_ = (x4_1 ++ [(⟨(bt (rdOf ByteArray.empty t161 x20_1) 0), t168⟩ : S63)]) := ⟨_, rfl⟩
                      replace H : (spec_l7Read.l0 kj37 y185 x5_1 t182 t161 (t161.length : Int) (wrap64 (x20_1 + 1))) = some (r1, r2) := by first | (rw [hy185]; with_reducible exact H) | (have H2_ := (Option.bind_some _ _).symm.trans H; rw [hy185]; with_reducible exact H2_) | (have H2_ := (Option.bind_some _ _).symm.trans H; with_reducible exact H2_) | with_reducible exact H | (rw [hy185]; exact H) | exact H
                      have Ny185 := Az.mk hy185
                      clear hy185
                      have H' := Az.mk H
                      clear H
                      have hcz53_0 : wc.cell? ⟨gb170, 0, none⟩ = some (.int .u8 (bt (rdOf ByteArray.empty t161 x20_1) 0)) := (blk_cell BK170.out 0).trans rfl
                      have hcz53_1 : wc.cell? ⟨gb170, 1, none⟩ = some (.int .i64 t168) := (blk_cell BK170.out 1).trans rfl
                      have hfz53_0 := blk_frozen BK170.out 0
                      have hfz53_1 := blk_frozen BK170.out 1
                      obtain ⟨Ao54, co54, eo54⟩ := Kd.R_slice HO_6.out
                      subst eo54
                      go_wp2_with (first | (go_at_call 79; (with_reducible refine (spec_l7In.calls kj37 _ _ x6_1 t168 true _ ?side1 ?side2 A49.out).mono ?_); (case side1 => repeat (first | exact (Kd.R_reads' HO_6.out).2.2 | (with_reducible refine Kd.C_alloc ?_ _) | (with_reducible refine Kd.C_drewN ?_ _) | (with_reducible refine Kd.C_drew ?_))); (case side2 => exact (Kd.R_reads' HO_6.out).2.1); rintro e w' ⟨rfl, ⟨nd, rfl⟩⟩) | ((with_reducible refine gate_callee (f := 80) rfl ?_); refine goesL_ (some 82) rfl rfl Tryz.func80 (by kernel_rfl) rfl #[.slice Ao54 x6_1.length co54, .int .i64 t168] rfl (by (try simp only [List.map_toArray, List.map_cons, List.map_nil]); first | done | rfl | (simp only [List.length_drop, List.length_take]; rfl)) ?_; (with_reducible refine (spec_l7Without.calls kj37 _ _ x6_1 t168 t182 _ ?side1 ?side2 A51.out).mono ?_); (case side1 => repeat (first | exact (Kd.R_reads' HO_6.out).2.2 | (with_reducible refine Kd.C_alloc ?_ _) | (with_reducible refine Kd.C_drewN ?_ _) | (with_reducible refine Kd.C_drew ?_))); (case side2 => exact (Kd.R_reads' HO_6.out).2.1); rintro e w55 ⟨v183, rfl, ho0, hb⟩; refine ⟨_, rfl, ?_⟩; have n0_ := Az.mk (Kd.Rb (by (with_reducible repeat first|apply Kd.Ra|apply Kd.Rn|apply Kd.Rw); exact HO_4.out) hb); have n1_ := Az.mk (Kd.R_elder' (by (with_reducible repeat first|apply Kd.Ra|apply Kd.Rn|apply Kd.Rw); exact HO_6.out) (Kd.R_base ho0) hb); have n2_ := Az.mk (Kd.Rb (by (with_reducible repeat first|apply Kd.Ra|apply Kd.Rn|apply Kd.Rw); exact HO_18.out) hb); have n3_ := Az.mk (Kd.R_lower (Kd.R_new' ho0 (Kd.R_lt (by (with_reducible repeat first|apply Kd.Ra|apply Kd.Rn|apply Kd.Rw); exact HO_6.out))) (bZ (by repeat (first | (with_reducible first|exact HB.out|apply bA|apply bN|apply bD | refine below_set ?_ GE170.out) | exact HB.out)))); have n4_ := Az.mk (blk_below (g := gb170) (o := .cells #[.int .u8 (bt (rdOf ByteArray.empty t161 x20_1) 0), .int .i64 t168] 63 (0, 0)) (by (with_reducible repeat first|refine blN ?_ _|refine bl1 ?_|refine blA ?_ _); exact BK170.out) hb); have n5_ := Az.mk (bS (by repeat (first | (with_reducible first|exact HB.out|apply bA|apply bN|apply bD | refine below_set ?_ GE170.out) | exact HB.out)) hb); clear HO_4; clear HO_6; clear HO_18; clear BK170; clear HB; have HO_4 := n0_; have HO_6 := n1_; have HO_18 := n2_; have HO184 := n3_; have BK170 := n4_; have HB := n5_; clear n0_ n1_ n2_ n3_ n4_ n5_; (try clear hb); (try clear hb2); (try clear hk); (try clear hi); (try clear ho0); have hcz56_0 : w55.cell? ⟨gb170, 0, none⟩ = some (.int .u8 (bt (rdOf ByteArray.empty t161 x20_1) 0)) := (blk_cell BK170.out 0).trans rfl; have hcz56_1 : w55.cell? ⟨gb170, 1, none⟩ = some (.int .i64 t168) := (blk_cell BK170.out 1).trans rfl; have hfz56_0 := blk_frozen BK170.out 0; have hfz56_1 := blk_frozen BK170.out 1) | ((with_reducible refine gate_builtin (b := .append) (xs := #[.tmp 83, .tmp 85]) rfl ?_); (try (refine gate_guard (by rfl) ?_; dsimp only)); at_builtin; refine Kd.R_append k63 (w0 := w) w.heap.size rfl (.tmp 83) (.tmp 85) 58 63 (.agg #[(.int .u8 0), (.int .i64 0)]) 16 rfl Tryz.underlying58 info63 rfl (by decide) (by omega) u4 x4_1 (⟨(bt (rdOf ByteArray.empty t161 x20_1) 0), t168⟩ : S63) [.int .u8 (bt (rdOf ByteArray.empty t161 x20_1) 0), .int .i64 t168] (fun k_ => k_ ≠ gb170) (fun _ => False) rfl rfl ?aP (fun _ hk => hk.elim) ?aF ?aO ?aB ?aS ?aL ?_; (case aP => exact k63_mkM _ _ _ (⟨(bt (rdOf ByteArray.empty t161 x20_1) 0), t168⟩ : S63)); (case aB => exact (by repeat (first | (with_reducible first|exact HB.out|apply bA|apply bN|apply bD | refine below_set ?_ GE170.out) | exact HB.out))); (case aF => exact (fun k_ hk => Kd.freshB (g := gb170) (o := .cells #[.int .u8 (bt (rdOf ByteArray.empty t161 x20_1) 0), .int .i64 t168] 63 (0, 0)) (by (with_reducible repeat first|refine blN ?_ _|refine bl1 ?_|refine blA ?_ _); exact BK170.out) k_ hk)); (case aO => exact (by (with_reducible repeat first|apply Kd.Ra|apply Kd.Rn|apply Kd.Rw); exact HO_4.out)); (case aS => exact (bZ (by repeat (first | (with_reducible first|exact HB.out|apply bA|apply bN|apply bD | refine below_set ?_ GE170.out) | exact HB.out)))); (case aL => have := LMc52.out; omega); intro v186 w57 ho hb hg hat; rw [← Ny185.out] at ho; have n0_ := Az.mk (Kd.R_over' (by (with_reducible repeat first|apply Kd.Ra|apply Kd.Rn|apply Kd.Rw); exact HO_6.out) (Kd.R_typed (by (with_reducible repeat first|apply Kd.Ra|apply Kd.Rn|apply Kd.Rw); exact HO_4.out)) (by decide) hg); have n1_ := Az.mk (Kd.R_over' (by (with_reducible repeat first|apply Kd.Ra|apply Kd.Rn|apply Kd.Rw); exact HO_18.out) (Kd.R_typed (by (with_reducible repeat first|apply Kd.Ra|apply Kd.Rn|apply Kd.Rw); exact HO_4.out)) (by decide) hg); have n2_ := Az.mk (blk_grown (g := gb170) (o := .cells #[.int .u8 (bt (rdOf ByteArray.empty t161 x20_1) 0), .int .i64 t168] 63 (0, 0)) (by (with_reducible repeat first|refine blN ?_ _|refine bl1 ?_|refine blA ?_ _); exact BK170.out) hg (Kd.R_away HO_4.out (fun _ hk => hk))); have n3_ := Az.mk (Kd.R_over' (by (with_reducible repeat first|apply Kd.Ra|apply Kd.Rn|apply Kd.Rw); exact HO184.out) (Kd.R_typed (by (with_reducible repeat first|apply Kd.Ra|apply Kd.Rn|apply Kd.Rw); exact HO_4.out)) (by decide) hg); have n4_ := Az.mk (hb); have n5_ := Az.mk (ho); clear HO_6; clear HO_18; clear BK170; clear HO184; clear HB; clear HO_4; have HO_6 := n0_; have HO_18 := n1_; have BK170 := n2_; have HO184 := n3_; have HB := n4_; have HO187 := n5_; clear n0_ n1_ n2_ n3_ n4_ n5_; clear ho hb hg hat))
                      go_roundg kj37
                      case measure => have := HK1.out; have := HJ14.out; have := HJ25.out; have := HJ37.out; omega
                      case rel => exact ⟨(y185), (x5_1), (t182), (wrap64 (x20_1 + 1)), (by first | rfl | (simp; done) | (simp [*]; done)), (by first | rfl | (simp; done) | (simp [*]; done)), H', ⟨by have := HK1.out; have := HJ14.out; have := HJ25.out; have := HJ37.out; omega⟩, ⟨by (with_reducible repeat first|apply Kd.Ra|apply Kd.Rn|apply Kd.Rw); exact Kd.R_mono HO187.out (fun _ hk => trivial)⟩, ⟨by (with_reducible repeat first|apply Kd.Ra|apply Kd.Rn|apply Kd.Rw); exact Kd.R_mono HO184.out (fun _ hk => trivial)⟩, ⟨by (with_reducible repeat first|apply Kd.Ra|apply Kd.Rn|apply Kd.Rw); exact HO_18.out⟩, ⟨by repeat (first | (with_reducible first|exact HB.out|apply bA|apply bN|apply bD | refine below_set ?_ GE170.out) | exact HB.out)⟩⟩
                     ·rw [if_neg c52] at H
                      exact absurd H (by simp)
                    ·replace c50 := Bool.eq_false_iff.mpr c50
                     subst c50
                     have H1 : (some ((([] : List (S63))), false)) = some (r1, r2) := by rw [if_neg (show ¬ (false = true) by decide)] at H; exact H
                     clear H
                     have H := H1
                     clear H1
                     obtain ⟨y188, hy188⟩ : ∃ y_ : List (S63), y_ = (([] : List (S63))) := ⟨_, rfl⟩
                     replace H : (some (y188, false)) = some (r1, r2) := by first | (rw [hy188]; with_reducible exact H) | (have H2_ := (Option.bind_some _ _).symm.trans H; rw [hy188]; with_reducible exact H2_) | (have H2_ := (Option.bind_some _ _).symm.trans H; with_reducible exact H2_) | with_reducible exact H | (rw [hy188]; exact H) | exact H
                     have Ny188 := Az.mk hy188
                     clear hy188
                     simp only [Option.some.injEq, Prod.mk.injEq] at H
                     obtain ⟨rfl, rfl⟩ := H
                     have hcz58_0 : wc.cell? ⟨gb170, 0, none⟩ = some (.int .u8 (bt (rdOf ByteArray.empty t161 x20_1) 0)) := (blk_cell BK170.out 0).trans rfl
                     have hcz58_1 : wc.cell? ⟨gb170, 1, none⟩ = some (.int .i64 t168) := (blk_cell BK170.out 1).trans rfl
                     have hfz58_0 := blk_frozen BK170.out 0
                     have hfz58_1 := blk_frozen BK170.out 1
                     obtain ⟨Ao59, co59, eo59⟩ := Kd.R_slice HO_6.out
                     subst eo59
                     go_wp2_with (first | (go_at_call 79; (with_reducible refine (spec_l7In.calls kj37 _ _ x6_1 t168 false _ ?side1 ?side2 A49.out).mono ?_); (case side1 => repeat (first | exact (Kd.R_reads' HO_6.out).2.2 | (with_reducible refine Kd.C_alloc ?_ _) | (with_reducible refine Kd.C_drewN ?_ _) | (with_reducible refine Kd.C_drew ?_))); (case side2 => exact (Kd.R_reads' HO_6.out).2.1); rintro e w' ⟨rfl, ⟨nd, rfl⟩⟩) | ((with_reducible refine gate_dst (N := 42) rfl ?_); (try (refine gate_guard (by rfl) ?_; dsimp only)); refine Kd.R_lit k63 _ 63 ?hg (N := 42) ?hd (xs := ([] : List (S63))) (inner := []) (ok := fun _ => True) (okp := fun _ => True) ?hr ?hp (fun _ hk => hk) trivial (Below.refl _ _) (Nat.le_refl _) (by simp) ?_; (case hd => rfl); (case hg => rfl); (case hr => first | (go_simp; done) | (go_simp; rfl)); (case hp => exact (Reps.none _ _)); intro v189 w60 ho61 hb hg_ hnew_; clear hg_ hnew_; (first | rw [← Ny188.out] at ho61 | (simp only [Int.reduceToNat] at ho61; rw [← Ny188.out] at ho61)); have n0_ := Az.mk (Kd.R_elder' (by (with_reducible repeat first|apply Kd.Ra|apply Kd.Rn|apply Kd.Rw); exact HO_4.out) (Kd.R_base ho61) hb); have n1_ := Az.mk (Kd.Rb (by (with_reducible repeat first|apply Kd.Ra|apply Kd.Rn|apply Kd.Rw); exact HO_6.out) hb); have n2_ := Az.mk (Kd.Rb (by (with_reducible repeat first|apply Kd.Ra|apply Kd.Rn|apply Kd.Rw); exact HO_18.out) hb); have n3_ := Az.mk (Kd.R_lower (Kd.R_newB (Kd.R_new' ho61 (Kd.R_lt (by (with_reducible repeat first|apply Kd.Ra|apply Kd.Rn|apply Kd.Rw); exact HO_4.out))) (g := gb170) (o := .cells #[.int .u8 (bt (rdOf ByteArray.empty t161 x20_1) 0), .int .i64 t168] 63 (0, 0)) (by (with_reducible repeat first|refine blN ?_ _|refine bl1 ?_|refine blA ?_ _); exact BK170.out)) (bZ (by repeat (first | (with_reducible first|exact HB.out|apply bA|apply bN|apply bD | refine below_set ?_ GE170.out) | exact HB.out)))); have n4_ := Az.mk (blk_below (g := gb170) (o := .cells #[.int .u8 (bt (rdOf ByteArray.empty t161 x20_1) 0), .int .i64 t168] 63 (0, 0)) (by (with_reducible repeat first|refine blN ?_ _|refine bl1 ?_|refine blA ?_ _); exact BK170.out) hb); have n5_ := Az.mk (bS (by repeat (first | (with_reducible first|exact HB.out|apply bA|apply bN|apply bD | refine below_set ?_ GE170.out) | exact HB.out)) hb); clear HO_4; clear HO_6; clear HO_18; clear BK170; clear HB; have HO_4 := n0_; have HO_6 := n1_; have HO_18 := n2_; have HO190 := n3_; have BK170 := n4_; have HB := n5_; clear n0_ n1_ n2_ n3_ n4_ n5_; clear hb ho61))
                     go_ret2
                     exact ⟨_, by first | rfl | (simp [errW_none, errW_some] <;> rfl) | (simp [*, errW_none, errW_some] <;> rfl), by (with_reducible repeat first|apply Kd.Ra|apply Kd.Rn|apply Kd.Rw); exact Kd.R_mono HO190.out (fun _ hk => trivial), by repeat (first | (with_reducible first|exact HB.out|apply bA|apply bN|apply bD | refine below_set ?_ GE170.out) | exact HB.out)⟩
                   ·rw [if_neg c48] at H
                    have c48b0 : ((bt (rdOf ByteArray.empty t161 x20_1) 0) == 45) = false := beq_eq_false_iff_ne.mpr c48
                    have c48b1 : ((bt (rdOf ByteArray.empty t161 x20_1) 0) != 45) = true := bne_iff_ne.mpr c48
                    obtain ⟨y191, hy191⟩ : ∃ y_ : List (S63), y_ = (([] : List (S63))) := ⟨_, rfl⟩
                    replace H : (some (y191, false)) = some (r1, r2) := by first | (rw [hy191]; with_reducible exact H) | (have H2_ := (Option.bind_some _ _).symm.trans H; rw [hy191]; with_reducible exact H2_) | (have H2_ := (Option.bind_some _ _).symm.trans H; with_reducible exact H2_) | with_reducible exact H | (rw [hy191]; exact H) | exact H
                    have Ny191 := Az.mk hy191
                    clear hy191
                    simp only [Option.some.injEq, Prod.mk.injEq] at H
                    obtain ⟨rfl, rfl⟩ := H
                    have hcz62_0 : wc.cell? ⟨gb170, 0, none⟩ = some (.int .u8 (bt (rdOf ByteArray.empty t161 x20_1) 0)) := (blk_cell BK170.out 0).trans rfl
                    have hcz62_1 : wc.cell? ⟨gb170, 1, none⟩ = some (.int .i64 t168) := (blk_cell BK170.out 1).trans rfl
                    have hfz62_0 := blk_frozen BK170.out 0
                    have hfz62_1 := blk_frozen BK170.out 1
                    go_wp2_with (first | ((with_reducible refine gate_dst (N := 42) rfl ?_); (try (refine gate_guard (by rfl) ?_; dsimp only)); refine Kd.R_lit k63 _ 63 ?hg (N := 42) ?hd (xs := ([] : List (S63))) (inner := []) (ok := fun _ => True) (okp := fun _ => True) ?hr ?hp (fun _ hk => hk) trivial (Below.refl _ _) (Nat.le_refl _) (by simp) ?_; (case hd => rfl); (case hg => rfl); (case hr => first | (go_simp; done) | (go_simp; rfl)); (case hp => exact (Reps.none _ _)); intro v192 w63 ho64 hb hg_ hnew_; clear hg_ hnew_; (first | rw [← Ny191.out] at ho64 | (simp only [Int.reduceToNat] at ho64; rw [← Ny191.out] at ho64)); have n0_ := Az.mk (Kd.R_elder' (by (with_reducible repeat first|apply Kd.Ra|apply Kd.Rn|apply Kd.Rw); exact HO_4.out) (Kd.R_base ho64) hb); have n1_ := Az.mk (Kd.Rb (by (with_reducible repeat first|apply Kd.Ra|apply Kd.Rn|apply Kd.Rw); exact HO_6.out) hb); have n2_ := Az.mk (Kd.Rb (by (with_reducible repeat first|apply Kd.Ra|apply Kd.Rn|apply Kd.Rw); exact HO_18.out) hb); have n3_ := Az.mk (Kd.R_lower (Kd.R_newB (Kd.R_new' ho64 (Kd.R_lt (by (with_reducible repeat first|apply Kd.Ra|apply Kd.Rn|apply Kd.Rw); exact HO_4.out))) (g := gb170) (o := .cells #[.int .u8 (bt (rdOf ByteArray.empty t161 x20_1) 0), .int .i64 t168] 63 (0, 0)) (by (with_reducible repeat first|refine blN ?_ _|refine bl1 ?_|refine blA ?_ _); exact BK170.out)) (bZ (by repeat (first | (with_reducible first|exact HB.out|apply bA|apply bN|apply bD | refine below_set ?_ GE170.out) | exact HB.out)))); have n4_ := Az.mk (blk_below (g := gb170) (o := .cells #[.int .u8 (bt (rdOf ByteArray.empty t161 x20_1) 0), .int .i64 t168] 63 (0, 0)) (by (with_reducible repeat first|refine blN ?_ _|refine bl1 ?_|refine blA ?_ _); exact BK170.out) hb); have n5_ := Az.mk (bS (by repeat (first | (with_reducible first|exact HB.out|apply bA|apply bN|apply bD | refine below_set ?_ GE170.out) | exact HB.out)) hb); clear HO_4; clear HO_6; clear HO_18; clear BK170; clear HB; have HO_4 := n0_; have HO_6 := n1_; have HO_18 := n2_; have HO193 := n3_; have BK170 := n4_; have HB := n5_; clear n0_ n1_ n2_ n3_ n4_ n5_; clear hb ho64))
                    go_ret2
                    exact ⟨_, by first | rfl | (simp [errW_none, errW_some] <;> rfl) | (simp [*, errW_none, errW_some] <;> rfl), by (with_reducible repeat first|apply Kd.Ra|apply Kd.Rn|apply Kd.Rw); exact Kd.R_mono HO193.out (fun _ hk => trivial), by repeat (first | (with_reducible first|exact HB.out|apply bA|apply bN|apply bD | refine below_set ?_ GE170.out) | exact HB.out)⟩
            ·replace c25 := Bool.eq_false_iff.mpr c25
             subst c25
             have H1 : (some ((([] : List (S63))), false)) = some (r1, r2) := by rw [if_neg (show ¬ (false = true) by decide)] at H; exact H
             clear H
             have H := H1
             clear H1
             obtain ⟨y194, hy194⟩ : ∃ y_ : List (S63), y_ = (([] : List (S63))) := ⟨_, rfl⟩
             replace H : (some (y194, false)) = some (r1, r2) := by first | (rw [hy194]; with_reducible exact H) | (have H2_ := (Option.bind_some _ _).symm.trans H; rw [hy194]; with_reducible exact H2_) | (have H2_ := (Option.bind_some _ _).symm.trans H; with_reducible exact H2_) | with_reducible exact H | (rw [hy194]; exact H) | exact H
             have Ny194 := Az.mk hy194
             clear hy194
             simp only [Option.some.injEq, Prod.mk.injEq] at H
             obtain ⟨rfl, rfl⟩ := H
             go_wp2_with (first | ((with_reducible refine gate_callee (f := 78) rfl ?_); refine goesL_ (some 35) rfl rfl Tryz.func78 (by kernel_rfl) rfl #[.string ((rdOf ByteArray.empty t161 x20_1).extract 1 (rdOf ByteArray.empty t161 x20_1).size)] rfl (by (try simp only [List.map_toArray, List.map_cons, List.map_nil]); first | done | rfl | (simp only [List.length_drop, List.length_take]; rfl)) ?_; (with_reducible refine (spec_l13Num.calls kj14 ((rdOf ByteArray.empty t161 x20_1).extract 1 (rdOf ByteArray.empty t161 x20_1).size) t168 false _ A22.out).mono ?_); rintro e w' ⟨rfl, ⟨nd, rfl⟩⟩; refine ⟨_, rfl, ?_⟩; (try (rw [drewN_self wc]; generalize hq_ : World.drewN wc _ = wc; have n0_ : Az (Kd.R Kd.string 9 wc w.heap.size (fun _ => True) (.slice (some ad164) t161.length co11) t161) := ⟨by rw [← hq_]; exact (by (with_reducible repeat first|apply Kd.Ra|apply Kd.Rn|apply Kd.Rw); exact HO_18.out)⟩; have n1_ : Az (Kd.R k63 63 wc w.heap.size (fun _ => True) u4 x4_1) := ⟨by rw [← hq_]; exact (by (with_reducible repeat first|apply Kd.Ra|apply Kd.Rn|apply Kd.Rw); exact HO_4.out)⟩; have n2_ : Az (Kd.R (Kd.int .i64) 3 wc w.heap.size (fun _ => True) u6 x6_1) := ⟨by rw [← hq_]; exact (by (with_reducible repeat first|apply Kd.Ra|apply Kd.Rn|apply Kd.Rw); exact HO_6.out)⟩; have n3_ : Az (Below w.heap.size w wc) := ⟨by rw [← hq_]; exact (by repeat first|exact HB.out|apply bA|apply bN|apply bD)⟩; clear HO_18 HO_4 HO_6 HB hq_; have HO_18 := n0_; have HO_4 := n1_; have HO_6 := n2_; have HB := n3_; clear n0_ n1_ n2_ n3_)); have p24 : 0 ≤ (0 : Int) := (by omega); have q24 : 0 < (rdOf ByteArray.empty t161 x20_1).size := (by have : (0 : Int) < ((rdOf ByteArray.empty t161 x20_1).size : Int) := of_decide_eq_true (by first|(with_reducible assumption)|assumption); omega); have hx24 : ∀ h : 0 < (rdOf ByteArray.empty t161 x20_1).size, (((rdOf ByteArray.empty t161 x20_1)[0]'h).toNat : Int) = bt (rdOf ByteArray.empty t161 x20_1) 0 := bt_at (rdOf ByteArray.empty t161 x20_1) 0; clear p24; have qi24 : (0 < ((rdOf ByteArray.empty t161 x20_1).size : Int)) = True := eq_true (of_decide_eq_true (by first|(with_reducible assumption)|assumption)); replace q24 := eq_true q24) | ((with_reducible refine gate_dst (N := 11) rfl ?_); (try (refine gate_guard (by rfl) ?_; dsimp only)); refine box_event ?hg (N := 11) ?hd (cs := #[.int .u8 0, .int .i64 0]) (t := 63) ?hr ?_; (case hd => rfl); (case hg => rfl); (case hr => first | (go_simp; done) | (go_simp; rfl)); intro gb170 hg w65 hbox hb; have n0_ := Az.mk (Kd.Rb (Kd.R_elderB (by (with_reducible repeat first|apply Kd.Ra|apply Kd.Rn|apply Kd.Rw); exact HO_4.out) gb170 (Nat.le_of_eq hg.symm)) hb); have n1_ := Az.mk (Kd.Rb (by (with_reducible repeat first|apply Kd.Ra|apply Kd.Rn|apply Kd.Rw); exact HO_6.out) hb); have n2_ := Az.mk (Kd.Rb (by (with_reducible repeat first|apply Kd.Ra|apply Kd.Rn|apply Kd.Rw); exact HO_18.out) hb); have n3_ := Az.mk (bS (by repeat first|exact HB.out|apply bA|apply bN|apply bD) hb); have n4_ := Az.mk (hbox); have n5_ := Az.mk ((by rw [hg]; exact (bZ (by repeat first|exact HB.out|apply bA|apply bN|apply bD)) : w.heap.size ≤ gb170)); have n6_ := Az.mk ((by rw [hg]; exact (bZ (by repeat first|exact HB.out|apply bA|apply bN|apply bD)) : w.heap.size ≤ gb170)); clear HO_4; clear HO_6; clear HO_18; clear HB; have HO_4 := n0_; have HO_6 := n1_; have HO_18 := n2_; have HB := n3_; have BK170 := n4_; have GW170 := n5_; have GE170 := n6_; clear n0_ n1_ n2_ n3_ n4_ n5_ n6_; clear hb hbox hg; have hcz66_0 : w65.cell? ⟨gb170, 0, none⟩ = some (.int .u8 0) := (blk_cell BK170.out 0).trans rfl; have hcz66_1 : w65.cell? ⟨gb170, 1, none⟩ = some (.int .i64 0) := (blk_cell BK170.out 1).trans rfl; have hfz66_0 := blk_frozen BK170.out 0; have hfz66_1 := blk_frozen BK170.out 1) | ((with_reducible refine gate_dst (N := 46) rfl ?_); (try (refine gate_guard (by rfl) ?_; dsimp only)); refine Kd.R_lit k63 _ 63 ?hg (N := 46) ?hd (xs := ([] : List (S63))) (inner := []) (ok := fun _ => True) (okp := fun _ => True) ?hr ?hp (fun _ hk => hk) trivial (Below.refl _ _) (Nat.le_refl _) (by simp) ?_; (case hd => rfl); (case hg => rfl); (case hr => first | (go_simp; done) | (go_simp; rfl)); (case hp => exact (Reps.none _ _)); intro v195 w67 ho68 hb hg_ hnew_; clear hg_ hnew_; (first | rw [← Ny194.out] at ho68 | (simp only [Int.reduceToNat] at ho68; rw [← Ny194.out] at ho68)); have n0_ := Az.mk (Kd.R_elder' (by (with_reducible repeat first|apply Kd.Ra|apply Kd.Rn|apply Kd.Rw); exact (Kd.R_mono (Kd.R_far (p := ⟨gb170, 1, none⟩) (Kd.R_far (p := ⟨gb170, 0, none⟩) (Kd.R_mono HO_4.out (fun k_ hk => (⟨hk, hk.2⟩ : _ ∧ k_ ≠ gb170))) (fun _ hk => hk.2) (.int .u8 (bt (rdOf ByteArray.empty t161 x20_1) 0))) (fun _ hk => hk.2) (.int .i64 t168)) (fun _ h_ => h_.1))) (Kd.R_base ho68) hb); have n1_ := Az.mk (Kd.Rb (by (with_reducible repeat first|apply Kd.Ra|apply Kd.Rn|apply Kd.Rw); exact (Kd.R_mono (Kd.R_far (p := ⟨gb170, 1, none⟩) (Kd.R_far (p := ⟨gb170, 0, none⟩) (Kd.R_types HO_6.out BK170.out (by decide)) (fun _ hk => hk.2) (.int .u8 (bt (rdOf ByteArray.empty t161 x20_1) 0))) (fun _ hk => hk.2) (.int .i64 t168)) (fun _ h_ => h_.1))) hb); have n2_ := Az.mk (Kd.Rb (by (with_reducible repeat first|apply Kd.Ra|apply Kd.Rn|apply Kd.Rw); exact (Kd.R_mono (Kd.R_far (p := ⟨gb170, 1, none⟩) (Kd.R_far (p := ⟨gb170, 0, none⟩) (Kd.R_types HO_18.out BK170.out (by decide)) (fun _ hk => hk.2) (.int .u8 (bt (rdOf ByteArray.empty t161 x20_1) 0))) (fun _ hk => hk.2) (.int .i64 t168)) (fun _ h_ => h_.1))) hb); have n3_ := Az.mk (Kd.R_lower (Kd.R_newB (Kd.R_new' ho68 (Kd.R_lt (by (with_reducible repeat first|apply Kd.Ra|apply Kd.Rn|apply Kd.Rw); exact (Kd.R_mono (Kd.R_far (p := ⟨gb170, 1, none⟩) (Kd.R_far (p := ⟨gb170, 0, none⟩) (Kd.R_mono HO_4.out (fun k_ hk => (⟨hk, hk.2⟩ : _ ∧ k_ ≠ gb170))) (fun _ hk => hk.2) (.int .u8 (bt (rdOf ByteArray.empty t161 x20_1) 0))) (fun _ hk => hk.2) (.int .i64 t168)) (fun _ h_ => h_.1))))) (g := gb170) (o := .cells #[.int .u8 (bt (rdOf ByteArray.empty t161 x20_1) 0), .int .i64 t168] 63 (0, 0)) (by (with_reducible repeat first|refine blN ?_ _|refine bl1 ?_|refine blA ?_ _); refine blk_put (cs := #[.int .u8 (bt (rdOf ByteArray.empty t161 x20_1) 0), .int .i64 0]) ?_ 1 _ rfl; (with_reducible repeat first|refine blN ?_ _|refine bl1 ?_|refine blA ?_ _); refine blk_put (cs := #[.int .u8 0, .int .i64 0]) ?_ 0 _ rfl; (with_reducible repeat first|refine blN ?_ _|refine bl1 ?_|refine blA ?_ _); exact BK170.out)) (bZ (by repeat (first | (with_reducible first|exact HB.out|apply bA|apply bN|apply bD | refine below_set ?_ GE170.out) | exact HB.out)))); have n4_ := Az.mk (blk_below (g := gb170) (o := .cells #[.int .u8 (bt (rdOf ByteArray.empty t161 x20_1) 0), .int .i64 t168] 63 (0, 0)) (by (with_reducible repeat first|refine blN ?_ _|refine bl1 ?_|refine blA ?_ _); refine blk_put (cs := #[.int .u8 (bt (rdOf ByteArray.empty t161 x20_1) 0), .int .i64 0]) ?_ 1 _ rfl; (with_reducible repeat first|refine blN ?_ _|refine bl1 ?_|refine blA ?_ _); refine blk_put (cs := #[.int .u8 0, .int .i64 0]) ?_ 0 _ rfl; (with_reducible repeat first|refine blN ?_ _|refine bl1 ?_|refine blA ?_ _); exact BK170.out) hb); have n5_ := Az.mk (bS (by repeat (first | (with_reducible first|exact HB.out|apply bA|apply bN|apply bD | refine below_set ?_ GE170.out) | exact HB.out)) hb); clear HO_4; clear HO_6; clear HO_18; clear BK170; clear HB; have HO_4 := n0_; have HO_6 := n1_; have HO_18 := n2_; have HO196 := n3_; have BK170 := n4_; have HB := n5_; clear n0_ n1_ n2_ n3_ n4_ n5_; clear hb ho68))
             go_ret2
             exact ⟨_, by first | rfl | (simp [errW_none, errW_some] <;> rfl) | (simp [*, errW_none, errW_some] <;> rfl), by (with_reducible repeat first|apply Kd.Ra|apply Kd.Rn|apply Kd.Rw); exact Kd.R_mono HO196.out (fun _ hk => trivial), by repeat (first | (with_reducible first|exact HB.out|apply bA|apply bN|apply bD | refine below_set ?_ GE170.out) | exact HB.out)⟩
           ·rw [if_neg c23] at H
            exact absurd H (by simp)
          ·rw [if_neg c21] at H
           exact absurd H (by simp)
      ·rw [if_neg c14] at H
       exact absurd H (by simp)
     ·rw [if_neg c13] at H
      exact absurd H (by simp)
    ·rw [if_neg c12] at H
     have c12b0 : decide (x20_1 < (t161.length : Int)) = false := decide_eq_false c12
     clear c12
     simp only [Option.some.injEq, Prod.mk.injEq] at H
     obtain ⟨rfl, rfl⟩ := H
     go_wp2
     go_ret2
     exact ⟨_, by first | rfl | (simp [errW_none, errW_some] <;> rfl) | (simp [*, errW_none, errW_some] <;> rfl), by (with_reducible repeat first|apply Kd.Ra|apply Kd.Rn|apply Kd.Rw); exact HO_4.out, by repeat (first | (with_reducible first|exact HB.out|apply bA|apply bN|apply bD) | exact HB.out)⟩
end Go.Proofs.YtndjbnkmhpbnpaaGreatDoor.Pr
namespace Go.Proofs.YtndjbnkmhpbnpaaGreatDoor.Pr
open Go.RowKit Go.Proofs.YtndjbnkmhpbnpaaGreatDoorW.PrintWords Go.Proofs.YtndjbnkmhpbnpaaGreatDoorW.PrintLast Go.Proofs.YtndjbnkmhpbnpaaGreatDoorW.PrintMore
attribute [local go_sem] max2_int min2_int max_two min_two max_three min_three max_four min_four   -- for this text's walks alone
set_option linter.unusedVariables false
set_option linter.unusedSimpArgs false
def impl_alive.l0 : Nat → Int → List Int → List (S31) → Int → Int → Option (List Int)
 | 0, _, _, _, _, _ => none
 | k + 1, x1, x5, x9, x10, x11 => if x11 < x10 then (if 0 ≤ x11 then (if x11 < (x9.length : Int) then (if ((rd_T31 x9 x11).f0) ≤ x1 then (if ((rd_T31 x9 x11).f2) < 0 then (if x5.length < 17592186044416 then (impl_alive.l0 k x1 (x5 ++ [wrap64 (x11 + 1)]) x9 x10 (wrap64 (x11 + 1))) else (none)) else (if x1 < ((rd_T31 x9 x11).f2) then (if x5.length < 17592186044416 then (impl_alive.l0 k x1 (x5 ++ [wrap64 (x11 + 1)]) x9 x10 (wrap64 (x11 + 1))) else (none)) else (impl_alive.l0 k x1 x5 x9 x10 (wrap64 (x11 + 1))))) else (impl_alive.l0 k x1 x5 x9 x10 (wrap64 (x11 + 1)))) else (none)) else (none)) else (some x5)
def impl_alive.f (k : Nat) (l0 : List (S31)) (a1 : Int) : Option (List Int) := impl_alive.l0 k a1 (([] : List Int)) l0 (l0.length : Int) 0
set_option maxHeartbeats 8000000 in
set_option maxRecDepth 100000 in
theorem impl_alive.calls (k : Nat) (A0 : Option Addr) (c0 : Nat) (l0 : List (S31)) (a1 : Int) (r : List Int) (w : World) (hr0 : Kd.C k31 w A0 l0.length l0) (hc0 : l0.length ≤ c0) (h : impl_alive.f k l0 a1 = some r) :
  Calls Tryz.prog 57 #[.slice A0 l0.length c0, .int .i64 a1] w fun e w' => ∃ v0_ : Value, e = .returned (v0_) ∧ Kd.R (Kd.int .i64) 3 w' w.heap.size (fun _ => True) v0_ r ∧ Below w.heap.size w w' := by
 have hu31 := Tryz.underlying31
 have HR0 := Az.mk hr0
 have HC0 := Az.mk hc0
 clear hr0 hc0
 have HB := Az.mk (Below.refl w.heap.size w)
 have H : (impl_alive.l0 k a1 (([] : List Int)) l0 (l0.length : Int) 0) = some r := h
 clear h
 obtain ⟨y268, hy268⟩ : ∃ y_ : List Int, y_ = (([] : List Int)) := ⟨_, rfl⟩
 replace H : (impl_alive.l0 k a1 y268 l0 (l0.length : Int) 0) = some r := by first | (rw [hy268]; with_reducible exact H) | (have H2_ := (Option.bind_some _ _).symm.trans H; rw [hy268]; with_reducible exact H2_) | (have H2_ := (Option.bind_some _ _).symm.trans H; with_reducible exact H2_) | with_reducible exact H | (rw [hy268]; exact H) | exact H
 have Ny268 := Az.mk hy268
 clear hy268
 have H' := Az.mk H
 clear H
 go_enter Tryz.func57, Tryz.ntmps57
 go_wp2_with (first | ((with_reducible refine gate_dst (N := 8) rfl ?_); refine Kd.R_lit (Kd.int .i64) _ 3 ?hg (N := 8) ?hd (xs := ([] : List Int)) (inner := []) (ok := fun _ => True) (okp := fun _ => True) ?hr ?hp (fun _ hk => hk) trivial (Below.refl _ _) (Nat.le_refl _) (by simp) ?_; (case hd => rfl); (case hg => rfl); (case hr => first | (go_simp; done) | (go_simp; rfl)); (case hp => exact (Reps.none _ _)); intro v269 w3 ho4 hb hg_ hnew_; clear hg_ hnew_; (first | rw [← Ny268.out] at ho4 | (simp only [Int.reduceToNat] at ho4; rw [← Ny268.out] at ho4)); have n0_ := Az.mk (Kd.R_lower ho4 (bZ (by repeat first|exact HB.out|apply bA|apply bN|apply bD))); have n1_ := Az.mk (bS (by repeat first|exact HB.out|apply bA|apply bN|apply bD) hb); clear HB; have HO270 := n0_; have HB := n1_; clear n0_ n1_; clear hb ho4))
 go_loopg [5, 11] k (fun kq v5 v11 w' => ∃ (x5_1 : List Int) (x11_1 : Int), v11 = .int .i64 x11_1 ∧ Az (impl_alive.l0 kq a1 x5_1 l0 (l0.length : Int) x11_1 = some r) ∧ Az (kq ≤ k) ∧ Az (Kd.R (Kd.int .i64) 3 w' w.heap.size (fun _ => True) v5 x5_1) ∧ Az (Below w.heap.size w w'))
 case atStart => exact ⟨(y268), (0), (by first | rfl | (simp; done) | (simp [*]; done)), H', ⟨Nat.le_refl _⟩, ⟨by (with_reducible repeat first|apply Kd.Ra|apply Kd.Rn|apply Kd.Rw); exact HO270.out⟩, ⟨by repeat (first | (with_reducible first|exact HB.out|apply bA|apply bN|apply bD) | exact HB.out)⟩⟩
 case round =>
  clear H'
  try clear p2
  obtain ⟨x5_1, x11_1, rfl, HA, HK1, HO_5, HB⟩ := hrel
  cases gk with
  | zero => exact absurd HA.out (by simp [impl_alive.l0])
  | succ k1 =>
   have H := HA.out
   clear HA
   simp only [impl_alive.l0] at H
   by_cases c5 : x11_1 < (l0.length : Int)
   ·rw [if_pos c5] at H
    have c5b0 : decide (x11_1 < (l0.length : Int)) = true := decide_eq_true c5
    clear c5
    by_cases c6 : 0 ≤ x11_1
    ·rw [if_pos c6] at H
     have c6b0 : decide (0 ≤ x11_1) = true := decide_eq_true c6
     clear c6
     by_cases c7 : x11_1 < (l0.length : Int)
     ·rw [if_pos c7] at H
      have c7b0 : decide (x11_1 < (l0.length : Int)) = true := decide_eq_true c7
      clear c7
      by_cases c8 : ((rd_T31 l0 x11_1).f0) ≤ a1
      ·rw [if_pos c8] at H
       have c8b0 : decide (((rd_T31 l0 x11_1).f0) ≤ a1) = true := decide_eq_true c8
       clear c8
       by_cases c9 : ((rd_T31 l0 x11_1).f2) < 0
       ·rw [if_pos c9] at H
        have c9b0 : decide (((rd_T31 l0 x11_1).f2) < 0) = true := decide_eq_true c9
        clear c9
        by_cases c10 : x5_1.length < 17592186044416
        ·rw [if_pos c10] at H
         have LMc10 := Az.mk c10
         clear c10
         obtain ⟨y273, hy273⟩ : ∃ y_ : List Int, y_ = (x5_1 ++ [wrap64 (x11_1 + 1)]) := ⟨_, rfl⟩
         replace H : (impl_alive.l0 k1 a1 y273 l0 (l0.length : Int) (wrap64 (x11_1 + 1))) = some r := by first | (rw [hy273]; with_reducible exact H) | (have H2_ := (Option.bind_some _ _).symm.trans H; rw [hy273]; with_reducible exact H2_) | (have H2_ := (Option.bind_some _ _).symm.trans H; with_reducible exact H2_) | with_reducible exact H | (rw [hy273]; exact H) | exact H
         have Ny273 := Az.mk hy273
         clear hy273
         have H' := Az.mk H
         clear H
         have p271 : 0 ≤ (x11_1 : Int) := of_decide_eq_true (by first|(with_reducible assumption)|assumption)
         have q271 : x11_1 < (l0.length : Int) := of_decide_eq_true (by first|(with_reducible assumption)|assumption)
         obtain ⟨ad271, e271, hx271_0, hx271_1, hx271_2⟩ := at_T31 HR0.out x11_1 p271 q271
         cases e271
         replace hx271_0 := (HB.out.cell (World.block_lt_of_cell? w _ hx271_0)).trans hx271_0
         replace hx271_1 := (HB.out.cell (World.block_lt_of_cell? w _ hx271_1)).trans hx271_1
         replace hx271_2 := (HB.out.cell (World.block_lt_of_cell? w _ hx271_2)).trans hx271_2
         replace p271 := eq_true p271
         replace q271 := eq_true q271
         go_wp2_with (first | ((with_reducible refine gate_dst (N := 7) rfl ?_); refine box_event ?hg (N := 7) ?hd (cs := #[.int .i64 0, .int .i64 0, .int .i64 0]) (t := 31) ?hr ?_; (case hd => rfl); (case hg => rfl); (case hr => first | (go_simp; done) | (go_simp; rfl)); intro gb272 hg w11 hbox hb; have n0_ := Az.mk (Kd.Rb (by (with_reducible repeat first|apply Kd.Ra|apply Kd.Rn|apply Kd.Rw); exact HO_5.out) hb); have n1_ := Az.mk (bS (by repeat first|exact HB.out|apply bA|apply bN|apply bD) hb); have n2_ := Az.mk (hbox); have n3_ := Az.mk ((by rw [hg]; exact (bZ (by repeat first|exact HB.out|apply bA|apply bN|apply bD)) : w.heap.size ≤ gb272)); have n4_ := Az.mk ((by rw [hg]; exact (bZ (by repeat first|exact HB.out|apply bA|apply bN|apply bD)) : w.heap.size ≤ gb272)); clear HO_5; clear HB; have HO_5 := n0_; have HB := n1_; have BK272 := n2_; have GW272 := n3_; have GE272 := n4_; clear n0_ n1_ n2_ n3_ n4_; clear hb hbox hg; have hcz12_0 : w11.cell? ⟨gb272, 0, none⟩ = some (.int .i64 0) := (blk_cell BK272.out 0).trans rfl; have hcz12_1 : w11.cell? ⟨gb272, 1, none⟩ = some (.int .i64 0) := (blk_cell BK272.out 1).trans rfl; have hcz12_2 : w11.cell? ⟨gb272, 2, none⟩ = some (.int .i64 0) := (blk_cell BK272.out 2).trans rfl; have hfz12_0 := blk_frozen BK272.out 0; have hfz12_1 := blk_frozen BK272.out 1; have hfz12_2 := blk_frozen BK272.out 2) | ((with_reducible refine gate_builtin (b := .append) (xs := #[.tmp 31, .tmp 34]) rfl ?_); at_builtin; refine Kd.R_append (Kd.int .i64) (w0 := w) w.heap.size rfl (.tmp 31) (.tmp 34) 33 3 (.int .i64 0) 8 rfl Tryz.underlying33 info3 rfl (by decide) (by omega) u5 x5_1 (wrap64 (x11_1 + 1)) [.int .i64 (wrap64 (x11_1 + 1))] (fun _ => True) (fun _ => False) rfl (by first | (go_simp; done) | (go_simp; rfl)) ?aP (fun _ hk => hk.elim) ?aF ?aO ?aB ?aS ?aL ?_; (case aP => exact rfl); (case aB => exact (by repeat (first | (with_reducible first|exact HB.out|apply bA|apply bN|apply bD | refine below_set ?_ GE272.out) | exact HB.out))); (case aF => exact (fun _ _ => trivial)); (case aO => exact (by (with_reducible repeat first|apply Kd.Ra|apply Kd.Rn|apply Kd.Rw); exact Kd.R_mono (Kd.R_far (p := ⟨gb272, 2, none⟩) (Kd.R_far (p := ⟨gb272, 1, none⟩) (Kd.R_far (p := ⟨gb272, 0, none⟩) (Kd.R_types HO_5.out BK272.out (by decide)) (fun _ hk => hk.2) (.int .i64 ((rd_T31 l0 x11_1).f0))) (fun _ hk => hk.2) (.int .i64 ((rd_T31 l0 x11_1).f1))) (fun _ hk => hk.2) (.int .i64 ((rd_T31 l0 x11_1).f2))) (fun _ hk => trivial))); (case aS => exact (bZ (by repeat (first | (with_reducible first|exact HB.out|apply bA|apply bN|apply bD | refine below_set ?_ GE272.out) | exact HB.out)))); (case aL => have := LMc10.out; omega); intro v274 w13 ho hb hg hat; rw [← Ny273.out] at ho; have n0_ := Az.mk (blk_grown (g := gb272) (o := .cells #[.int .i64 ((rd_T31 l0 x11_1).f0), .int .i64 ((rd_T31 l0 x11_1).f1), .int .i64 ((rd_T31 l0 x11_1).f2)] 31 (0, 0)) (by (with_reducible repeat first|refine blN ?_ _|refine bl1 ?_|refine blA ?_ _); refine blk_put (cs := #[.int .i64 ((rd_T31 l0 x11_1).f0), .int .i64 ((rd_T31 l0 x11_1).f1), .int .i64 0]) ?_ 2 _ rfl; (with_reducible repeat first|refine blN ?_ _|refine bl1 ?_|refine blA ?_ _); refine blk_put (cs := #[.int .i64 ((rd_T31 l0 x11_1).f0), .int .i64 0, .int .i64 0]) ?_ 1 _ rfl; (with_reducible repeat first|refine blN ?_ _|refine bl1 ?_|refine blA ?_ _); refine blk_put (cs := #[.int .i64 0, .int .i64 0, .int .i64 0]) ?_ 0 _ rfl; (with_reducible repeat first|refine blN ?_ _|refine bl1 ?_|refine blA ?_ _); exact BK272.out) hg (Kd.R_ne HO_5.out BK272.out (by decide))); have n1_ := Az.mk (hb); have n2_ := Az.mk (ho); clear BK272; clear HB; clear HO_5; have BK272 := n0_; have HB := n1_; have HO275 := n2_; clear n0_ n1_ n2_; clear ho hb hg hat))
         go_roundg k1
         case measure => have := HK1.out; omega
         case rel => exact ⟨(y273), (wrap64 (x11_1 + 1)), (by first | rfl | (simp; done) | (simp [*]; done)), H', ⟨by have := HK1.out; omega⟩, ⟨by (with_reducible repeat first|apply Kd.Ra|apply Kd.Rn|apply Kd.Rw); exact HO275.out⟩, ⟨by repeat (first | (with_reducible first|exact HB.out|apply bA|apply bN|apply bD | refine below_set ?_ GE272.out) | exact HB.out)⟩⟩
        ·rw [if_neg c10] at H
         exact absurd H (by simp)
       ·rw [if_neg c9] at H
        have c9b0 : decide (((rd_T31 l0 x11_1).f2) < 0) = false := decide_eq_false c9
        clear c9
        by_cases c14 : a1 < ((rd_T31 l0 x11_1).f2)
        ·rw [if_pos c14] at H
         have c14b0 : decide (a1 < ((rd_T31 l0 x11_1).f2)) = true := decide_eq_true c14
         clear c14
         by_cases c15 : x5_1.length < 17592186044416
         ·rw [if_pos c15] at H
          have LMc15 := Az.mk c15
          clear c15
          obtain ⟨y276, hy276⟩ : ∃ y_ : List Int, y_ = (x5_1 ++ [wrap64 (x11_1 + 1)]) := ⟨_, rfl⟩
          replace H : (impl_alive.l0 k1 a1 y276 l0 (l0.length : Int) (wrap64 (x11_1 + 1))) = some r := by first | (rw [hy276]; with_reducible exact H) | (have H2_ := (Option.bind_some _ _).symm.trans H; rw [hy276]; with_reducible exact H2_) | (have H2_ := (Option.bind_some _ _).symm.trans H; with_reducible exact H2_) | with_reducible exact H | (rw [hy276]; exact H) | exact H
          have Ny276 := Az.mk hy276
          clear hy276
          have H' := Az.mk H
          clear H
          have p271 : 0 ≤ (x11_1 : Int) := of_decide_eq_true (by first|(with_reducible assumption)|assumption)
          have q271 : x11_1 < (l0.length : Int) := of_decide_eq_true (by first|(with_reducible assumption)|assumption)
          obtain ⟨ad271, e271, hx271_0, hx271_1, hx271_2⟩ := at_T31 HR0.out x11_1 p271 q271
          cases e271
          replace hx271_0 := (HB.out.cell (World.block_lt_of_cell? w _ hx271_0)).trans hx271_0
          replace hx271_1 := (HB.out.cell (World.block_lt_of_cell? w _ hx271_1)).trans hx271_1
          replace hx271_2 := (HB.out.cell (World.block_lt_of_cell? w _ hx271_2)).trans hx271_2
          replace p271 := eq_true p271
          replace q271 := eq_true q271
          go_wp2_with (first | ((with_reducible refine gate_dst (N := 7) rfl ?_); refine box_event ?hg (N := 7) ?hd (cs := #[.int .i64 0, .int .i64 0, .int .i64 0]) (t := 31) ?hr ?_; (case hd => rfl); (case hg => rfl); (case hr => first | (go_simp; done) | (go_simp; rfl)); intro gb272 hg w16 hbox hb; have n0_ := Az.mk (Kd.Rb (by (with_reducible repeat first|apply Kd.Ra|apply Kd.Rn|apply Kd.Rw); exact HO_5.out) hb); have n1_ := Az.mk (bS (by repeat first|exact HB.out|apply bA|apply bN|apply bD) hb); have n2_ := Az.mk (hbox); have n3_ := Az.mk ((by rw [hg]; exact (bZ (by repeat first|exact HB.out|apply bA|apply bN|apply bD)) : w.heap.size ≤ gb272)); have n4_ := Az.mk ((by rw [hg]; exact (bZ (by repeat first|exact HB.out|apply bA|apply bN|apply bD)) : w.heap.size ≤ gb272)); clear HO_5; clear HB; have HO_5 := n0_; have HB := n1_; have BK272 := n2_; have GW272 := n3_; have GE272 := n4_; clear n0_ n1_ n2_ n3_ n4_; clear hb hbox hg; have hcz17_0 : w16.cell? ⟨gb272, 0, none⟩ = some (.int .i64 0) := (blk_cell BK272.out 0).trans rfl; have hcz17_1 : w16.cell? ⟨gb272, 1, none⟩ = some (.int .i64 0) := (blk_cell BK272.out 1).trans rfl; have hcz17_2 : w16.cell? ⟨gb272, 2, none⟩ = some (.int .i64 0) := (blk_cell BK272.out 2).trans rfl; have hfz17_0 := blk_frozen BK272.out 0; have hfz17_1 := blk_frozen BK272.out 1; have hfz17_2 := blk_frozen BK272.out 2) | ((with_reducible refine gate_builtin (b := .append) (xs := #[.tmp 31, .tmp 34]) rfl ?_); at_builtin; refine Kd.R_append (Kd.int .i64) (w0 := w) w.heap.size rfl (.tmp 31) (.tmp 34) 33 3 (.int .i64 0) 8 rfl Tryz.underlying33 info3 rfl (by decide) (by omega) u5 x5_1 (wrap64 (x11_1 + 1)) [.int .i64 (wrap64 (x11_1 + 1))] (fun _ => True) (fun _ => False) rfl (by first | (go_simp; done) | (go_simp; rfl)) ?aP (fun _ hk => hk.elim) ?aF ?aO ?aB ?aS ?aL ?_; (case aP => exact rfl); (case aB => exact (by repeat (first | (with_reducible first|exact HB.out|apply bA|apply bN|apply bD | refine below_set ?_ GE272.out) | exact HB.out))); (case aF => exact (fun _ _ => trivial)); (case aO => exact (by (with_reducible repeat first|apply Kd.Ra|apply Kd.Rn|apply Kd.Rw); exact Kd.R_mono (Kd.R_far (p := ⟨gb272, 2, none⟩) (Kd.R_far (p := ⟨gb272, 1, none⟩) (Kd.R_far (p := ⟨gb272, 0, none⟩) (Kd.R_types HO_5.out BK272.out (by decide)) (fun _ hk => hk.2) (.int .i64 ((rd_T31 l0 x11_1).f0))) (fun _ hk => hk.2) (.int .i64 ((rd_T31 l0 x11_1).f1))) (fun _ hk => hk.2) (.int .i64 ((rd_T31 l0 x11_1).f2))) (fun _ hk => trivial))); (case aS => exact (bZ (by repeat (first | (with_reducible first|exact HB.out|apply bA|apply bN|apply bD | refine below_set ?_ GE272.out) | exact HB.out)))); (case aL => have := LMc15.out; omega); intro v277 w18 ho hb hg hat; rw [← Ny276.out] at ho; have n0_ := Az.mk (blk_grown (g := gb272) (o := .cells #[.int .i64 ((rd_T31 l0 x11_1).f0), .int .i64 ((rd_T31 l0 x11_1).f1), .int .i64 ((rd_T31 l0 x11_1).f2)] 31 (0, 0)) (by (with_reducible repeat first|refine blN ?_ _|refine bl1 ?_|refine blA ?_ _); refine blk_put (cs := #[.int .i64 ((rd_T31 l0 x11_1).f0), .int .i64 ((rd_T31 l0 x11_1).f1), .int .i64 0]) ?_ 2 _ rfl; (with_reducible repeat first|refine blN ?_ _|refine bl1 ?_|refine blA ?_ _); refine blk_put (cs := #[.int .i64 ((rd_T31 l0 x11_1).f0), .int .i64 0, .int .i64 0]) ?_ 1 _ rfl; (with_reducible repeat first|refine blN ?_ _|refine bl1 ?_|refine blA ?_ _); refine blk_put (cs := #[.int .i64 0, .int .i64 0, .int .i64 0]) ?_ 0 _ rfl; (with_reducible repeat first|refine blN ?_ _|refine bl1 ?_|refine blA ?_ _); exact BK272.out) hg (Kd.R_ne HO_5.out BK272.out (by decide))); have n1_ := Az.mk (hb); have n2_ := Az.mk (ho); clear BK272; clear HB; clear HO_5; have BK272 := n0_; have HB := n1_; have HO278 := n2_; clear n0_ n1_ n2_; clear ho hb hg hat))
          go_roundg k1
          case measure => have := HK1.out; omega
          case rel => exact ⟨(y276), (wrap64 (x11_1 + 1)), (by first | rfl | (simp; done) | (simp [*]; done)), H', ⟨by have := HK1.out; omega⟩, ⟨by (with_reducible repeat first|apply Kd.Ra|apply Kd.Rn|apply Kd.Rw); exact HO278.out⟩, ⟨by repeat (first | (with_reducible first|exact HB.out|apply bA|apply bN|apply bD | refine below_set ?_ GE272.out) | exact HB.out)⟩⟩
         ·rw [if_neg c15] at H
          exact absurd H (by simp)
        ·rw [if_neg c14] at H
         have c14b0 : decide (a1 < ((rd_T31 l0 x11_1).f2)) = false := decide_eq_false c14
         clear c14
         have H' := Az.mk H
         clear H
         have p271 : 0 ≤ (x11_1 : Int) := of_decide_eq_true (by first|(with_reducible assumption)|assumption)
         have q271 : x11_1 < (l0.length : Int) := of_decide_eq_true (by first|(with_reducible assumption)|assumption)
         obtain ⟨ad271, e271, hx271_0, hx271_1, hx271_2⟩ := at_T31 HR0.out x11_1 p271 q271
         cases e271
         replace hx271_0 := (HB.out.cell (World.block_lt_of_cell? w _ hx271_0)).trans hx271_0
         replace hx271_1 := (HB.out.cell (World.block_lt_of_cell? w _ hx271_1)).trans hx271_1
         replace hx271_2 := (HB.out.cell (World.block_lt_of_cell? w _ hx271_2)).trans hx271_2
         replace p271 := eq_true p271
         replace q271 := eq_true q271
         go_wp2_with (first | ((with_reducible refine gate_dst (N := 7) rfl ?_); refine box_event ?hg (N := 7) ?hd (cs := #[.int .i64 0, .int .i64 0, .int .i64 0]) (t := 31) ?hr ?_; (case hd => rfl); (case hg => rfl); (case hr => first | (go_simp; done) | (go_simp; rfl)); intro gb272 hg w19 hbox hb; have n0_ := Az.mk (Kd.Rb (by (with_reducible repeat first|apply Kd.Ra|apply Kd.Rn|apply Kd.Rw); exact HO_5.out) hb); have n1_ := Az.mk (bS (by repeat first|exact HB.out|apply bA|apply bN|apply bD) hb); have n2_ := Az.mk (hbox); have n3_ := Az.mk ((by rw [hg]; exact (bZ (by repeat first|exact HB.out|apply bA|apply bN|apply bD)) : w.heap.size ≤ gb272)); have n4_ := Az.mk ((by rw [hg]; exact (bZ (by repeat first|exact HB.out|apply bA|apply bN|apply bD)) : w.heap.size ≤ gb272)); clear HO_5; clear HB; have HO_5 := n0_; have HB := n1_; have BK272 := n2_; have GW272 := n3_; have GE272 := n4_; clear n0_ n1_ n2_ n3_ n4_; clear hb hbox hg; have hcz20_0 : w19.cell? ⟨gb272, 0, none⟩ = some (.int .i64 0) := (blk_cell BK272.out 0).trans rfl; have hcz20_1 : w19.cell? ⟨gb272, 1, none⟩ = some (.int .i64 0) := (blk_cell BK272.out 1).trans rfl; have hcz20_2 : w19.cell? ⟨gb272, 2, none⟩ = some (.int .i64 0) := (blk_cell BK272.out 2).trans rfl; have hfz20_0 := blk_frozen BK272.out 0; have hfz20_1 := blk_frozen BK272.out 1; have hfz20_2 := blk_frozen BK272.out 2))
         go_roundg k1
         case measure => have := HK1.out; omega
         case rel => exact ⟨(x5_1), (wrap64 (x11_1 + 1)), (by first | rfl | (simp; done) | (simp [*]; done)), H', ⟨by have := HK1.out; omega⟩, ⟨by (with_reducible repeat first|apply Kd.Ra|apply Kd.Rn|apply Kd.Rw); exact Kd.R_mono (Kd.R_far (p := ⟨gb272, 2, none⟩) (Kd.R_far (p := ⟨gb272, 1, none⟩) (Kd.R_far (p := ⟨gb272, 0, none⟩) (Kd.R_types HO_5.out BK272.out (by decide)) (fun _ hk => hk.2) (.int .i64 ((rd_T31 l0 x11_1).f0))) (fun _ hk => hk.2) (.int .i64 ((rd_T31 l0 x11_1).f1))) (fun _ hk => hk.2) (.int .i64 ((rd_T31 l0 x11_1).f2))) (fun _ hk => trivial)⟩, ⟨by repeat (first | (with_reducible first|exact HB.out|apply bA|apply bN|apply bD | refine below_set ?_ GE272.out) | exact HB.out)⟩⟩
      ·rw [if_neg c8] at H
       have c8b0 : decide (((rd_T31 l0 x11_1).f0) ≤ a1) = false := decide_eq_false c8
       clear c8
       have H' := Az.mk H
       clear H
       have p271 : 0 ≤ (x11_1 : Int) := of_decide_eq_true (by first|(with_reducible assumption)|assumption)
       have q271 : x11_1 < (l0.length : Int) := of_decide_eq_true (by first|(with_reducible assumption)|assumption)
       obtain ⟨ad271, e271, hx271_0, hx271_1, hx271_2⟩ := at_T31 HR0.out x11_1 p271 q271
       cases e271
       replace hx271_0 := (HB.out.cell (World.block_lt_of_cell? w _ hx271_0)).trans hx271_0
       replace hx271_1 := (HB.out.cell (World.block_lt_of_cell? w _ hx271_1)).trans hx271_1
       replace hx271_2 := (HB.out.cell (World.block_lt_of_cell? w _ hx271_2)).trans hx271_2
       replace p271 := eq_true p271
       replace q271 := eq_true q271
       go_wp2_with (first | ((with_reducible refine gate_dst (N := 7) rfl ?_); refine box_event ?hg (N := 7) ?hd (cs := #[.int .i64 0, .int .i64 0, .int .i64 0]) (t := 31) ?hr ?_; (case hd => rfl); (case hg => rfl); (case hr => first | (go_simp; done) | (go_simp; rfl)); intro gb272 hg w21 hbox hb; have n0_ := Az.mk (Kd.Rb (by (with_reducible repeat first|apply Kd.Ra|apply Kd.Rn|apply Kd.Rw); exact HO_5.out) hb); have n1_ := Az.mk (bS (by repeat first|exact HB.out|apply bA|apply bN|apply bD) hb); have n2_ := Az.mk (hbox); have n3_ := Az.mk ((by rw [hg]; exact (bZ (by repeat first|exact HB.out|apply bA|apply bN|apply bD)) : w.heap.size ≤ gb272)); have n4_ := Az.mk ((by rw [hg]; exact (bZ (by repeat first|exact HB.out|apply bA|apply bN|apply bD)) : w.heap.size ≤ gb272)); clear HO_5; clear HB; have HO_5 := n0_; have HB := n1_; have BK272 := n2_; have GW272 := n3_; have GE272 := n4_; clear n0_ n1_ n2_ n3_ n4_; clear hb hbox hg; have hcz22_0 : w21.cell? ⟨gb272, 0, none⟩ = some (.int .i64 0) := (blk_cell BK272.out 0).trans rfl; have hcz22_1 : w21.cell? ⟨gb272, 1, none⟩ = some (.int .i64 0) := (blk_cell BK272.out 1).trans rfl; have hcz22_2 : w21.cell? ⟨gb272, 2, none⟩ = some (.int .i64 0) := (blk_cell BK272.out 2).trans rfl; have hfz22_0 := blk_frozen BK272.out 0; have hfz22_1 := blk_frozen BK272.out 1; have hfz22_2 := blk_frozen BK272.out 2))
       go_roundg k1
       case measure => have := HK1.out; omega
       case rel => exact ⟨(x5_1), (wrap64 (x11_1 + 1)), (by first | rfl | (simp; done) | (simp [*]; done)), H', ⟨by have := HK1.out; omega⟩, ⟨by (with_reducible repeat first|apply Kd.Ra|apply Kd.Rn|apply Kd.Rw); exact Kd.R_mono (Kd.R_far (p := ⟨gb272, 2, none⟩) (Kd.R_far (p := ⟨gb272, 1, none⟩) (Kd.R_far (p := ⟨gb272, 0, none⟩) (Kd.R_types HO_5.out BK272.out (by decide)) (fun _ hk => hk.2) (.int .i64 ((rd_T31 l0 x11_1).f0))) (fun _ hk => hk.2) (.int .i64 ((rd_T31 l0 x11_1).f1))) (fun _ hk => hk.2) (.int .i64 ((rd_T31 l0 x11_1).f2))) (fun _ hk => trivial)⟩, ⟨by repeat (first | (with_reducible first|exact HB.out|apply bA|apply bN|apply bD | refine below_set ?_ GE272.out) | exact HB.out)⟩⟩
     ·rw [if_neg c7] at H
      exact absurd H (by simp)
    ·rw [if_neg c6] at H
     exact absurd H (by simp)
   ·rw [if_neg c5] at H
    have c5b0 : decide (x11_1 < (l0.length : Int)) = false := decide_eq_false c5
    clear c5
    obtain rfl := Option.some.inj H
    go_wp2
    go_ret
    exact ⟨_, by first | rfl | (simp [errW_none, errW_some] <;> rfl) | (simp [*, errW_none, errW_some] <;> rfl), by (with_reducible repeat first|apply Kd.Ra|apply Kd.Rn|apply Kd.Rw); exact HO_5.out, by repeat (first | (with_reducible first|exact HB.out|apply bA|apply bN|apply bD) | exact HB.out)⟩
def spec_l7Lives.l0 : Nat → List (S31) → List (S63) → Int → Int → Option ((List (S31)))
 | 0, _, _, _, _ => none
 | k + 1, x3, x7, x8, x9 => if x9 < x8 then (if 0 ≤ x9 then (if x9 < (x7.length : Int) then (if ((rd_T63 x7 x9).f0) = 43 then (if x3.length < 5864062014805 then (spec_l7Lives.l0 k (x3 ++ [(⟨x9, x9, (-1)⟩ : S31)]) x7 x8 (wrap64 (x9 + 1))) else (none)) else (if ((rd_T63 x7 x9).f0) = 46 then (if 0 ≤ (wrap64 (((rd_T63 x7 x9).f1) - 1)) then (if (wrap64 (((rd_T63 x7 x9).f1) - 1)) < (x3.length : Int) then (spec_l7Lives.l0 k (x3.set ((wrap64 (((rd_T63 x7 x9).f1) - 1)) : Int).toNat (⟨(rd_T31 x3 (wrap64 (((rd_T63 x7 x9).f1) - 1))).f0, x9, (rd_T31 x3 (wrap64 (((rd_T63 x7 x9).f1) - 1))).f2⟩ : S31)) x7 x8 (wrap64 (x9 + 1))) else (none)) else (none)) else (if ((rd_T63 x7 x9).f0) = 45 then (if 0 ≤ (wrap64 (((rd_T63 x7 x9).f1) - 1)) then (if (wrap64 (((rd_T63 x7 x9).f1) - 1)) < (x3.length : Int) then (spec_l7Lives.l0 k (x3.set ((wrap64 (((rd_T63 x7 x9).f1) - 1)) : Int).toNat (⟨(rd_T31 x3 (wrap64 (((rd_T63 x7 x9).f1) - 1))).f0, (rd_T31 x3 (wrap64 (((rd_T63 x7 x9).f1) - 1))).f1, x9⟩ : S31)) x7 x8 (wrap64 (x9 + 1))) else (none)) else (none)) else (spec_l7Lives.l0 k x3 x7 x8 (wrap64 (x9 + 1)))))) else (none)) else (none)) else (some x3)
def spec_l7Lives.f (k : Nat) (l0 : List (S63)) : Option ((List (S31))) := spec_l7Lives.l0 k (([] : List (S31))) l0 (l0.length : Int) 0
set_option maxHeartbeats 8000000 in
set_option maxRecDepth 100000 in
theorem spec_l7Lives.calls (k : Nat) (A0 : Option Addr) (c0 : Nat) (l0 : List (S63)) (r : List (S31)) (w : World) (hr0 : Kd.C k63 w A0 l0.length l0) (hc0 : l0.length ≤ c0) (h : spec_l7Lives.f k l0 = some r) :
  Calls Tryz.prog 55 #[.slice A0 l0.length c0] w fun e w' => ∃ v0_ : Value, e = .returned (v0_) ∧ Kd.R k31 31 w' w.heap.size (fun _ => True) v0_ r ∧ Below w.heap.size w w' := by
 have hu63 := Tryz.underlying63
 have hu31 := Tryz.underlying31
 have HR0 := Az.mk hr0
 have HC0 := Az.mk hc0
 clear hr0 hc0
 have HB := Az.mk (Below.refl w.heap.size w)
 have H : (spec_l7Lives.l0 k (([] : List (S31))) l0 (l0.length : Int) 0) = some r := h
 clear h
 obtain ⟨y197, hy197⟩ : ∃ y_ : List (S31), y_ = (([] : List (S31))) := ⟨_, rfl⟩
 replace H : (spec_l7Lives.l0 k y197 l0 (l0.length : Int) 0) = some r := by first | (rw [hy197]; with_reducible exact H) | (have H2_ := (Option.bind_some _ _).symm.trans H; rw [hy197]; with_reducible exact H2_) | (have H2_ := (Option.bind_some _ _).symm.trans H; with_reducible exact H2_) | with_reducible exact H | (rw [hy197]; exact H) | exact H
 have Ny197 := Az.mk hy197
 clear hy197
 have H' := Az.mk H
 clear H
 go_enter Tryz.func55, Tryz.ntmps55
 go_wp2_with (first | ((with_reducible refine gate_dst (N := 6) rfl ?_); refine Kd.R_lit k31 _ 31 ?hg (N := 6) ?hd (xs := ([] : List (S31))) (inner := []) (ok := fun _ => True) (okp := fun _ => True) ?hr ?hp (fun _ hk => hk) trivial (Below.refl _ _) (Nat.le_refl _) (by simp) ?_; (case hd => rfl); (case hg => rfl); (case hr => first | (go_simp; done) | (go_simp; rfl)); (case hp => exact (Reps.none _ _)); intro v198 w2 ho3 hb hg_ hnew_; clear hg_ hnew_; (first | rw [← Ny197.out] at ho3 | (simp only [Int.reduceToNat] at ho3; rw [← Ny197.out] at ho3)); have n0_ := Az.mk (Kd.R_lower ho3 (bZ (by repeat first|exact HB.out|apply bA|apply bN|apply bD))); have n1_ := Az.mk (bS (by repeat first|exact HB.out|apply bA|apply bN|apply bD) hb); clear HB; have HO199 := n0_; have HB := n1_; clear n0_ n1_; clear hb ho3))
 go_loopg [3, 9] k (fun kq v3 v9 w' => ∃ (x3_1 : List (S31)) (x9_1 : Int), v9 = .int .i64 x9_1 ∧ Az (spec_l7Lives.l0 kq x3_1 l0 (l0.length : Int) x9_1 = some r) ∧ Az (kq ≤ k) ∧ Az (Kd.R k31 31 w' w.heap.size (fun _ => True) v3 x3_1) ∧ Az (Below w.heap.size w w'))
 case atStart => exact ⟨(y197), (0), (by first | rfl | (simp; done) | (simp [*]; done)), H', ⟨Nat.le_refl _⟩, ⟨by (with_reducible repeat first|apply Kd.Ra|apply Kd.Rn|apply Kd.Rw); exact HO199.out⟩, ⟨by repeat (first | (with_reducible first|exact HB.out|apply bA|apply bN|apply bD) | exact HB.out)⟩⟩
 case round =>
  clear H'
  try clear p2
  obtain ⟨x3_1, x9_1, rfl, HA, HK1, HO_3, HB⟩ := hrel
  cases gk with
  | zero => exact absurd HA.out (by simp [spec_l7Lives.l0])
  | succ k1 =>
   have H := HA.out
   clear HA
   simp only [spec_l7Lives.l0] at H
   by_cases c4 : x9_1 < (l0.length : Int)
   ·rw [if_pos c4] at H
    have c4b0 : decide (x9_1 < (l0.length : Int)) = true := decide_eq_true c4
    clear c4
    by_cases c5 : 0 ≤ x9_1
    ·rw [if_pos c5] at H
     have c5b0 : decide (0 ≤ x9_1) = true := decide_eq_true c5
     clear c5
     by_cases c6 : x9_1 < (l0.length : Int)
     ·rw [if_pos c6] at H
      have c6b0 : decide (x9_1 < (l0.length : Int)) = true := decide_eq_true c6
      clear c6
      by_cases c7 : ((rd_T63 l0 x9_1).f0) = 43
      ·rw [if_pos c7] at H
       have c7b0 : (((rd_T63 l0 x9_1).f0) == 43) = true := beq_iff_eq.mpr c7
       have c7b1 : (((rd_T63 l0 x9_1).f0) != 43) = false := bne_eq_false_iff_eq.mpr c7
       clear c7
       by_cases c8 : x3_1.length < 5864062014805
       ·rw [if_pos c8] at H
        have LMc8 := Az.mk c8
        clear c8
        obtain ⟨y202, hy202⟩ : ∃ y_ : List (S31), y_ = (x3_1 ++ [(⟨x9_1, x9_1, (-1)⟩ : S31)]) := ⟨_, rfl⟩
        replace H : (spec_l7Lives.l0 k1 y202 l0 (l0.length : Int) (wrap64 (x9_1 + 1))) = some r := by first | (rw [hy202]; with_reducible exact H) | (have H2_ := (Option.bind_some _ _).symm.trans H; rw [hy202]; with_reducible exact H2_) | (have H2_ := (Option.bind_some _ _).symm.trans H; with_reducible exact H2_) | with_reducible exact H | (rw [hy202]; exact H) | exact H
        have Ny202 := Az.mk hy202
        clear hy202
        have H' := Az.mk H
        clear H
        have p200 : 0 ≤ (x9_1 : Int) := of_decide_eq_true (by first|(with_reducible assumption)|assumption)
        have q200 : x9_1 < (l0.length : Int) := of_decide_eq_true (by first|(with_reducible assumption)|assumption)
        obtain ⟨ad200, e200, hx200_0, hx200_1⟩ := at_T63 HR0.out x9_1 p200 q200
        cases e200
        replace hx200_0 := (HB.out.cell (World.block_lt_of_cell? w _ hx200_0)).trans hx200_0
        replace hx200_1 := (HB.out.cell (World.block_lt_of_cell? w _ hx200_1)).trans hx200_1
        replace p200 := eq_true p200
        replace q200 := eq_true q200
        go_wp2_with (first | ((with_reducible refine gate_dst (N := 5) rfl ?_); refine box_event ?hg (N := 5) ?hd (cs := #[.int .u8 0, .int .i64 0]) (t := 63) ?hr ?_; (case hd => rfl); (case hg => rfl); (case hr => first | (go_simp; done) | (go_simp; rfl)); intro gb201 hg w9 hbox hb; have n0_ := Az.mk (Kd.Rb (by (with_reducible repeat first|apply Kd.Ra|apply Kd.Rn|apply Kd.Rw); exact HO_3.out) hb); have n1_ := Az.mk (bS (by repeat first|exact HB.out|apply bA|apply bN|apply bD) hb); have n2_ := Az.mk (hbox); have n3_ := Az.mk ((by rw [hg]; exact (bZ (by repeat first|exact HB.out|apply bA|apply bN|apply bD)) : w.heap.size ≤ gb201)); have n4_ := Az.mk ((by rw [hg]; exact (bZ (by repeat first|exact HB.out|apply bA|apply bN|apply bD)) : w.heap.size ≤ gb201)); clear HO_3; clear HB; have HO_3 := n0_; have HB := n1_; have BK201 := n2_; have GW201 := n3_; have GE201 := n4_; clear n0_ n1_ n2_ n3_ n4_; clear hb hbox hg; have hcz10_0 : w9.cell? ⟨gb201, 0, none⟩ = some (.int .u8 0) := (blk_cell BK201.out 0).trans rfl; have hcz10_1 : w9.cell? ⟨gb201, 1, none⟩ = some (.int .i64 0) := (blk_cell BK201.out 1).trans rfl; have hfz10_0 := blk_frozen BK201.out 0; have hfz10_1 := blk_frozen BK201.out 1) | ((with_reducible refine gate_builtin (b := .append) (xs := #[.tmp 18, .tmp 22]) rfl ?_); at_builtin; refine Kd.R_append k31 (w0 := w) w.heap.size rfl (.tmp 18) (.tmp 22) 27 31 (.agg #[(.int .i64 0), (.int .i64 0), (.int .i64 0)]) 24 rfl Tryz.underlying27 info31 rfl (by decide) (by omega) u3 x3_1 (⟨x9_1, x9_1, (-1)⟩ : S31) [.int .i64 x9_1, .int .i64 x9_1, .int .i64 (-1)] (fun _ => True) (fun _ => False) rfl (by first | (go_simp; done) | (go_simp; rfl)) ?aP (fun _ hk => hk.elim) ?aF ?aO ?aB ?aS ?aL ?_; (case aP => exact k31_mkM _ _ _ (⟨x9_1, x9_1, (-1)⟩ : S31)); (case aB => exact (by repeat (first | (with_reducible first|exact HB.out|apply bA|apply bN|apply bD | refine below_set ?_ GE201.out) | exact HB.out))); (case aF => exact (fun _ _ => trivial)); (case aO => exact (by (with_reducible repeat first|apply Kd.Ra|apply Kd.Rn|apply Kd.Rw); exact Kd.R_mono (Kd.R_far (p := ⟨gb201, 1, none⟩) (Kd.R_far (p := ⟨gb201, 0, none⟩) (Kd.R_types HO_3.out BK201.out (by decide)) (fun _ hk => hk.2) (.int .u8 ((rd_T63 l0 x9_1).f0))) (fun _ hk => hk.2) (.int .i64 ((rd_T63 l0 x9_1).f1))) (fun _ hk => trivial))); (case aS => exact (bZ (by repeat (first | (with_reducible first|exact HB.out|apply bA|apply bN|apply bD | refine below_set ?_ GE201.out) | exact HB.out)))); (case aL => have := LMc8.out; omega); intro v203 w11 ho hb hg hat; rw [← Ny202.out] at ho; have n0_ := Az.mk (blk_grown (g := gb201) (o := .cells #[.int .u8 ((rd_T63 l0 x9_1).f0), .int .i64 ((rd_T63 l0 x9_1).f1)] 63 (0, 0)) (by (with_reducible repeat first|refine blN ?_ _|refine bl1 ?_|refine blA ?_ _); refine blk_put (cs := #[.int .u8 ((rd_T63 l0 x9_1).f0), .int .i64 0]) ?_ 1 _ rfl; (with_reducible repeat first|refine blN ?_ _|refine bl1 ?_|refine blA ?_ _); refine blk_put (cs := #[.int .u8 0, .int .i64 0]) ?_ 0 _ rfl; (with_reducible repeat first|refine blN ?_ _|refine bl1 ?_|refine blA ?_ _); exact BK201.out) hg (Kd.R_ne HO_3.out BK201.out (by decide))); have n1_ := Az.mk (hb); have n2_ := Az.mk (ho); clear BK201; clear HB; clear HO_3; have BK201 := n0_; have HB := n1_; have HO204 := n2_; clear n0_ n1_ n2_; clear ho hb hg hat))
        go_roundg k1
        case measure => have := HK1.out; omega
        case rel => exact ⟨(y202), (wrap64 (x9_1 + 1)), (by first | rfl | (simp; done) | (simp [*]; done)), H', ⟨by have := HK1.out; omega⟩, ⟨by (with_reducible repeat first|apply Kd.Ra|apply Kd.Rn|apply Kd.Rw); exact HO204.out⟩, ⟨by repeat (first | (with_reducible first|exact HB.out|apply bA|apply bN|apply bD | refine below_set ?_ GE201.out) | exact HB.out)⟩⟩
       ·rw [if_neg c8] at H
        exact absurd H (by simp)
      ·rw [if_neg c7] at H
       have c7b0 : (((rd_T63 l0 x9_1).f0) == 43) = false := beq_eq_false_iff_ne.mpr c7
       have c7b1 : (((rd_T63 l0 x9_1).f0) != 43) = true := bne_iff_ne.mpr c7
       by_cases c12 : ((rd_T63 l0 x9_1).f0) = 46
       ·rw [if_pos c12] at H
        have c12b0 : (((rd_T63 l0 x9_1).f0) == 46) = true := beq_iff_eq.mpr c12
        have c12b1 : (((rd_T63 l0 x9_1).f0) != 46) = false := bne_eq_false_iff_eq.mpr c12
        clear c12
        obtain ⟨ji13, hji13⟩ : ∃ j_ : Int, (wrap64 (((rd_T63 l0 x9_1).f1) - 1)) = j_ := ⟨_, rfl⟩
        replace H : (if 0 ≤ (ji13) then (if (ji13) < (x3_1.length : Int) then (spec_l7Lives.l0 k1 (x3_1.set ((ji13) : Int).toNat (⟨(rd_T31 x3_1 (ji13)).f0, x9_1, (rd_T31 x3_1 (ji13)).f2⟩ : S31)) l0 (l0.length : Int) (wrap64 (x9_1 + 1))) else (none)) else (none)) = some r := by first | (rw [hji13] at H; exact H) | (simp only [hji13] at H ⊢; exact H)
        have hji13w : (IntKind.i64.wrap (((rd_T63 l0 x9_1).f1) - 1)) = ji13 := (i64_w _).trans hji13
        by_cases c14 : 0 ≤ (ji13)
        ·rw [if_pos c14] at H
         have c14b0 : decide (0 ≤ (ji13)) = true := decide_eq_true c14
         clear c14
         by_cases c15 : (ji13) < (x3_1.length : Int)
         ·rw [if_pos c15] at H
          have c15b0 : decide ((ji13) < (x3_1.length : Int)) = true := decide_eq_true c15
          clear c15
          obtain ⟨y205, hy205⟩ : ∃ y_ : List (S31), y_ = (x3_1.set ((ji13) : Int).toNat (⟨(rd_T31 x3_1 (ji13)).f0, x9_1, (rd_T31 x3_1 (ji13)).f2⟩ : S31)) := ⟨_, rfl⟩
          replace H : (spec_l7Lives.l0 k1 y205 l0 (l0.length : Int) (wrap64 (x9_1 + 1))) = some r := by first | (rw [hy205]; with_reducible exact H) | (have H2_ := (Option.bind_some _ _).symm.trans H; rw [hy205]; with_reducible exact H2_) | (have H2_ := (Option.bind_some _ _).symm.trans H; with_reducible exact H2_) | with_reducible exact H | (rw [hy205]; exact H) | exact H
          have Ny205 := Az.mk hy205
          clear hy205
          have H' := Az.mk H
          clear H
          have p200 : 0 ≤ (x9_1 : Int) := of_decide_eq_true (by first|(with_reducible assumption)|assumption)
          have q200 : x9_1 < (l0.length : Int) := of_decide_eq_true (by first|(with_reducible assumption)|assumption)
          obtain ⟨ad200, e200, hx200_0, hx200_1⟩ := at_T63 HR0.out x9_1 p200 q200
          cases e200
          replace hx200_0 := (HB.out.cell (World.block_lt_of_cell? w _ hx200_0)).trans hx200_0
          replace hx200_1 := (HB.out.cell (World.block_lt_of_cell? w _ hx200_1)).trans hx200_1
          replace p200 := eq_true p200
          replace q200 := eq_true q200
          go_wp2_with (first | ((with_reducible refine gate_dst (N := 5) rfl ?_); refine box_event ?hg (N := 5) ?hd (cs := #[.int .u8 0, .int .i64 0]) (t := 63) ?hr ?_; (case hd => rfl); (case hg => rfl); (case hr => first | (go_simp; done) | (go_simp; rfl)); intro gb201 hg w17 hbox hb; have n0_ := Az.mk (Kd.Rb (by (with_reducible repeat first|apply Kd.Ra|apply Kd.Rn|apply Kd.Rw); exact HO_3.out) hb); have n1_ := Az.mk (bS (by repeat first|exact HB.out|apply bA|apply bN|apply bD) hb); have n2_ := Az.mk (hbox); have n3_ := Az.mk ((by rw [hg]; exact (bZ (by repeat first|exact HB.out|apply bA|apply bN|apply bD)) : w.heap.size ≤ gb201)); have n4_ := Az.mk ((by rw [hg]; exact (bZ (by repeat first|exact HB.out|apply bA|apply bN|apply bD)) : w.heap.size ≤ gb201)); clear HO_3; clear HB; have HO_3 := n0_; have HB := n1_; have BK201 := n2_; have GW201 := n3_; have GE201 := n4_; clear n0_ n1_ n2_ n3_ n4_; clear hb hbox hg; have hcz18_0 : w17.cell? ⟨gb201, 0, none⟩ = some (.int .u8 0) := (blk_cell BK201.out 0).trans rfl; have hcz18_1 : w17.cell? ⟨gb201, 1, none⟩ = some (.int .i64 0) := (blk_cell BK201.out 1).trans rfl; have hfz18_0 := blk_frozen BK201.out 0; have hfz18_1 := blk_frozen BK201.out 1) | ((with_reducible refine gate_store (t := 63) (p := 5) rfl ?_); refine store_event (t := 63) (p := 5) (v := ?vo_w19) (w1 := ((w17.setCell ⟨gb201, 0, none⟩ (.int .u8 ((rd_T63 l0 x9_1).f0))).setCell ⟨gb201, 1, none⟩ (.int .i64 ((rd_T63 l0 x9_1).f1)))) ?hg ?ho ?hn ?hr ?_; (case ho => rfl); (case hg => rfl); (case hn => rfl); (case hr => first | (go_simp; done) | (go_simp; rfl)); intro w19 hw; have n0_ : Az (Kd.R k31 31 w19 w.heap.size (fun _ => True) u3 x3_1) := ⟨(by rw [hw]; exact (by (with_reducible repeat first|apply Kd.Ra|apply Kd.Rn|apply Kd.Rw); exact Kd.R_mono (Kd.R_far (p := ⟨gb201, 1, none⟩) (Kd.R_far (p := ⟨gb201, 0, none⟩) (Kd.R_types HO_3.out BK201.out (by decide)) (fun _ hk => hk.2) (.int .u8 ((rd_T63 l0 x9_1).f0))) (fun _ hk => hk.2) (.int .i64 ((rd_T63 l0 x9_1).f1))) (fun _ hk => trivial)))⟩; have n1_ : Az (w19.heap[gb201]? = some (.cells #[.int .u8 ((rd_T63 l0 x9_1).f0), .int .i64 ((rd_T63 l0 x9_1).f1)] 63 (0, 0))) := ⟨(by rw [hw]; exact (by (with_reducible repeat first|refine blN ?_ _|refine bl1 ?_|refine blA ?_ _); refine blk_put (cs := #[.int .u8 ((rd_T63 l0 x9_1).f0), .int .i64 0]) ?_ 1 _ rfl; (with_reducible repeat first|refine blN ?_ _|refine bl1 ?_|refine blA ?_ _); refine blk_put (cs := #[.int .u8 0, .int .i64 0]) ?_ 0 _ rfl; (with_reducible repeat first|refine blN ?_ _|refine bl1 ?_|refine blA ?_ _); exact BK201.out))⟩; have n2_ : Az (Below w.heap.size w w19) := ⟨(by rw [hw]; exact (by repeat (first | (with_reducible first|exact HB.out|apply bA|apply bN|apply bD | refine below_set ?_ GE201.out) | exact HB.out)))⟩; clear hw; clear HO_3; clear BK201; clear HB; have HO_3 := n0_; have BK201 := n1_; have HB := n2_; clear n0_ n1_ n2_; have hcz20_0 : w19.cell? ⟨gb201, 0, none⟩ = some (.int .u8 ((rd_T63 l0 x9_1).f0)) := (blk_cell BK201.out 0).trans rfl; have hcz20_1 : w19.cell? ⟨gb201, 1, none⟩ = some (.int .i64 ((rd_T63 l0 x9_1).f1)) := (blk_cell BK201.out 1).trans rfl; have hfz20_0 := blk_frozen BK201.out 0; have hfz20_1 := blk_frozen BK201.out 1; have p16 : 0 ≤ ((ji13) : Int) := of_decide_eq_true (by first|(with_reducible assumption)|assumption); have q16 : ((ji13) : Int) < ((x3_1.length : Int) : Int) := of_decide_eq_true (by first|(with_reducible assumption)|assumption); obtain ⟨go16, co16, eo16, gb16, gl16, cl16, HG16⟩ := Kd.R_form HO_3.out (by omega); (first | cases eo16 | (injection eo16 with ea_ en_ ec_; (first | subst ea_ | (injection ea_ with ea_; subst ea_)); subst ec_; clear en_)); have GB16 := Az.mk gb16; have GG16 := Az.mk HG16; clear gb16 gl16 HG16; obtain ⟨ce16, hcl16, hM16, hcc16, hfr16⟩ := Kd.R_elem HO_3.out z31 ((ji13) : Int) p16 q16; obtain rfl := k31_openM hM16; have hx16_0 : w19.cell? ⟨go16, ((ji13) : Int).toNat * 3, none⟩ = some (.int .i64 ((rd_T31 x3_1 (ji13)).f0)) := hcc16 0 _ rfl; have hx16_1 : w19.cell? ⟨go16, ((ji13) : Int).toNat * 3 + 1, none⟩ = some (.int .i64 ((rd_T31 x3_1 (ji13)).f1)) := hcc16 1 _ rfl; have hx16_2 : w19.cell? ⟨go16, ((ji13) : Int).toNat * 3 + 2, none⟩ = some (.int .i64 ((rd_T31 x3_1 (ji13)).f2)) := hcc16 2 _ rfl; have hf16_0 : w19.frozen? ⟨go16, ((ji13) : Int).toNat * 3, none⟩ = false := hfr16 0; have hf16_1 : w19.frozen? ⟨go16, ((ji13) : Int).toNat * 3 + 1, none⟩ = false := hfr16 1; have hf16_2 : w19.frozen? ⟨go16, ((ji13) : Int).toNat * 3 + 2, none⟩ = false := hfr16 2; clear hcl16 hcc16 hfr16 hM16; replace p16 := eq_true p16; replace q16 := eq_true q16; have HX21 := Az.mk (show Kd.R k31 31 w19 w.heap.size (fun _ => True) (.slice (some ⟨go16, 0, none⟩) x3_1.length co16) x3_1 from (by (with_reducible repeat first|apply Kd.Ra|apply Kd.Rn|apply Kd.Rw); exact HO_3.out)); obtain ⟨ce21, hcl21, hM21, hcc21, hfr21⟩ := Kd.R_elem HX21.out z31 ((ji13) : Int) (of_decide_eq_true (by first|(with_reducible assumption)|assumption)) (by have h_ : ((ji13) : Int) < ((x3_1.length : Int) : Int) := of_decide_eq_true (by first|(with_reducible assumption)|assumption); first | exact h_ | (have e_ := (Kd.R_reads' HO_3.out).1; omega) | simpa using h_); obtain rfl := k31_openM hM21; have HP21 := Kd.R_seg HX21.out ((ji13) : Int) (of_decide_eq_true (by first|(with_reducible assumption)|assumption)) (by have h_ : ((ji13) : Int) < ((x3_1.length : Int) : Int) := of_decide_eq_true (by first|(with_reducible assumption)|assumption); first | exact h_ | (have e_ := (Kd.R_reads' HO_3.out).1; omega) | simpa using h_) (seg := [.int .i64 x9_1]) (j := 1) hcl21 hcc21 (show 2 ≤ 3 from by decide) (x' := (⟨(rd_T31 x3_1 (ji13)).f0, x9_1, (rd_T31 x3_1 (ji13)).f2⟩ : S31)) (k31_mkM _ _ _ (⟨(rd_T31 x3_1 (ji13)).f0, x9_1, (rd_T31 x3_1 (ji13)).f2⟩ : S31) ) (fun _ hk => hk); have hx21_1 := hcc21 1 _ rfl; (try simp only [show (k31).sz = 3 from rfl, Nat.mul_one, Nat.add_zero] at hx21_1); have hf21_1 := hfr21 1; (try simp only [show (k31).sz = 3 from rfl, Nat.mul_one, Nat.add_zero] at hf21_1); clear hcl21 hcc21 hfr21 hM21) | ((with_reducible refine gate_store (t := 3) (p := 32) rfl ?_); refine store_event (t := 3) (p := 32) (v := ?vo_w22) (w1 := (w19.setCell ⟨go16, ((ji13) : Int).toNat * 3 + 1, none⟩ (.int .i64 x9_1))) ?hg ?ho ?hn ?hr ?_; (case ho => rfl); (case hg => rfl); (case hn => rfl); (case hr => first | (go_simp; done) | (go_simp; rfl)); intro w22 hw; have hg : w19.grownBy w22 (some go16) := (by rw [hw]; exact HP21.2); have hp_ : Kd.R k31 31 w22 w.heap.size (fun _ => True) (.slice (some ⟨go16, 0, none⟩) x3_1.length co16) y205 := (by rw [hw, Ny205.out]; exact HP21.1); clear HP21; have n0_ := Az.mk (hp_); have n1_ := Az.mk (blk_grown (g := gb201) (o := .cells #[.int .u8 ((rd_T63 l0 x9_1).f0), .int .i64 ((rd_T63 l0 x9_1).f1)] 63 (0, 0)) (by (with_reducible repeat first|refine blN ?_ _|refine bl1 ?_|refine blA ?_ _); exact BK201.out) hg (Kd.R_ne HO_3.out BK201.out (by decide))); have n2_ := Az.mk ((by rw [hw]; exact below_set (HB.out) GB16.out : Below w.heap.size w w22)); clear HO_3; clear BK201; clear HB; have HO_3 := n0_; have BK201 := n1_; have HB := n2_; clear n0_ n1_ n2_; clear hg hw hp_))
          go_roundg k1
          case measure => have := HK1.out; omega
          case rel => exact ⟨(y205), (wrap64 (x9_1 + 1)), (by first | rfl | (simp; done) | (simp [*]; done)), H', ⟨by have := HK1.out; omega⟩, ⟨by (with_reducible repeat first|apply Kd.Ra|apply Kd.Rn|apply Kd.Rw); exact HO_3.out⟩, ⟨by repeat (first | (with_reducible first|exact HB.out|apply bA|apply bN|apply bD | refine below_set ?_ GE201.out) | exact HB.out)⟩⟩
         ·rw [if_neg c15] at H
          exact absurd H (by simp)
        ·rw [if_neg c14] at H
         exact absurd H (by simp)
       ·rw [if_neg c12] at H
        have c12b0 : (((rd_T63 l0 x9_1).f0) == 46) = false := beq_eq_false_iff_ne.mpr c12
        have c12b1 : (((rd_T63 l0 x9_1).f0) != 46) = true := bne_iff_ne.mpr c12
        by_cases c23 : ((rd_T63 l0 x9_1).f0) = 45
        ·rw [if_pos c23] at H
         have c23b0 : (((rd_T63 l0 x9_1).f0) == 45) = true := beq_iff_eq.mpr c23
         have c23b1 : (((rd_T63 l0 x9_1).f0) != 45) = false := bne_eq_false_iff_eq.mpr c23
         clear c23
         obtain ⟨ji24, hji24⟩ : ∃ j_ : Int, (wrap64 (((rd_T63 l0 x9_1).f1) - 1)) = j_ := ⟨_, rfl⟩
         replace H : (if 0 ≤ (ji24) then (if (ji24) < (x3_1.length : Int) then (spec_l7Lives.l0 k1 (x3_1.set ((ji24) : Int).toNat (⟨(rd_T31 x3_1 (ji24)).f0, (rd_T31 x3_1 (ji24)).f1, x9_1⟩ : S31)) l0 (l0.length : Int) (wrap64 (x9_1 + 1))) else (none)) else (none)) = some r := by first | (rw [hji24] at H; exact H) | (simp only [hji24] at H ⊢; exact H)
         have hji24w : (IntKind.i64.wrap (((rd_T63 l0 x9_1).f1) - 1)) = ji24 := (i64_w _).trans hji24
         by_cases c25 : 0 ≤ (ji24)
         ·rw [if_pos c25] at H
          have c25b0 : decide (0 ≤ (ji24)) = true := decide_eq_true c25
          clear c25
          by_cases c26 : (ji24) < (x3_1.length : Int)
          ·rw [if_pos c26] at H
           have c26b0 : decide ((ji24) < (x3_1.length : Int)) = true := decide_eq_true c26
           clear c26
           obtain ⟨y206, hy206⟩ : ∃ y_ : List (S31), y_ = (x3_1.set ((ji24) : Int).toNat (⟨(rd_T31 x3_1 (ji24)).f0, (rd_T31 x3_1 (ji24)).f1, x9_1⟩ : S31)) := ⟨_, rfl⟩
           replace H : (spec_l7Lives.l0 k1 y206 l0 (l0.length : Int) (wrap64 (x9_1 + 1))) = some r := by first | (rw [hy206]; with_reducible exact H) | (have H2_ := (Option.bind_some _ _).symm.trans H; rw [hy206]; with_reducible exact H2_) | (have H2_ := (Option.bind_some _ _).symm.trans H; with_reducible exact H2_) | with_reducible exact H | (rw [hy206]; exact H) | exact H
           have Ny206 := Az.mk hy206
           clear hy206
           have H' := Az.mk H
           clear H
           have p200 : 0 ≤ (x9_1 : Int) := of_decide_eq_true (by first|(with_reducible assumption)|assumption)
           have q200 : x9_1 < (l0.length : Int) := of_decide_eq_true (by first|(with_reducible assumption)|assumption)
           obtain ⟨ad200, e200, hx200_0, hx200_1⟩ := at_T63 HR0.out x9_1 p200 q200
           cases e200
           replace hx200_0 := (HB.out.cell (World.block_lt_of_cell? w _ hx200_0)).trans hx200_0
           replace hx200_1 := (HB.out.cell (World.block_lt_of_cell? w _ hx200_1)).trans hx200_1
           replace p200 := eq_true p200
           replace q200 := eq_true q200
           go_wp2_with (first | ((with_reducible refine gate_dst (N := 5) rfl ?_); refine box_event ?hg (N := 5) ?hd (cs := #[.int .u8 0, .int .i64 0]) (t := 63) ?hr ?_; (case hd => rfl); (case hg => rfl); (case hr => first | (go_simp; done) | (go_simp; rfl)); intro gb201 hg w28 hbox hb; have n0_ := Az.mk (Kd.Rb (by (with_reducible repeat first|apply Kd.Ra|apply Kd.Rn|apply Kd.Rw); exact HO_3.out) hb); have n1_ := Az.mk (bS (by repeat first|exact HB.out|apply bA|apply bN|apply bD) hb); have n2_ := Az.mk (hbox); have n3_ := Az.mk ((by rw [hg]; exact (bZ (by repeat first|exact HB.out|apply bA|apply bN|apply bD)) : w.heap.size ≤ gb201)); have n4_ := Az.mk ((by rw [hg]; exact (bZ (by repeat first|exact HB.out|apply bA|apply bN|apply bD)) : w.heap.size ≤ gb201)); clear HO_3; clear HB; have HO_3 := n0_; have HB := n1_; have BK201 := n2_; have GW201 := n3_; have GE201 := n4_; clear n0_ n1_ n2_ n3_ n4_; clear hb hbox hg; have hcz29_0 : w28.cell? ⟨gb201, 0, none⟩ = some (.int .u8 0) := (blk_cell BK201.out 0).trans rfl; have hcz29_1 : w28.cell? ⟨gb201, 1, none⟩ = some (.int .i64 0) := (blk_cell BK201.out 1).trans rfl; have hfz29_0 := blk_frozen BK201.out 0; have hfz29_1 := blk_frozen BK201.out 1) | ((with_reducible refine gate_store (t := 63) (p := 5) rfl ?_); refine store_event (t := 63) (p := 5) (v := ?vo_w30) (w1 := ((w28.setCell ⟨gb201, 0, none⟩ (.int .u8 ((rd_T63 l0 x9_1).f0))).setCell ⟨gb201, 1, none⟩ (.int .i64 ((rd_T63 l0 x9_1).f1)))) ?hg ?ho ?hn ?hr ?_; (case ho => rfl); (case hg => rfl); (case hn => rfl); (case hr => first | (go_simp; done) | (go_simp; rfl)); intro w30 hw; have n0_ : Az (Kd.R k31 31 w30 w.heap.size (fun _ => True) u3 x3_1) := ⟨(by rw [hw]; exact (by (with_reducible repeat first|apply Kd.Ra|apply Kd.Rn|apply Kd.Rw); exact Kd.R_mono (Kd.R_far (p := ⟨gb201, 1, none⟩) (Kd.R_far (p := ⟨gb201, 0, none⟩) (Kd.R_types HO_3.out BK201.out (by decide)) (fun _ hk => hk.2) (.int .u8 ((rd_T63 l0 x9_1).f0))) (fun _ hk => hk.2) (.int .i64 ((rd_T63 l0 x9_1).f1))) (fun _ hk => trivial)))⟩; have n1_ : Az (w30.heap[gb201]? = some (.cells #[.int .u8 ((rd_T63 l0 x9_1).f0), .int .i64 ((rd_T63 l0 x9_1).f1)] 63 (0, 0))) := ⟨(by rw [hw]; exact (by (with_reducible repeat first|refine blN ?_ _|refine bl1 ?_|refine blA ?_ _); refine blk_put (cs := #[.int .u8 ((rd_T63 l0 x9_1).f0), .int .i64 0]) ?_ 1 _ rfl; (with_reducible repeat first|refine blN ?_ _|refine bl1 ?_|refine blA ?_ _); refine blk_put (cs := #[.int .u8 0, .int .i64 0]) ?_ 0 _ rfl; (with_reducible repeat first|refine blN ?_ _|refine bl1 ?_|refine blA ?_ _); exact BK201.out))⟩; have n2_ : Az (Below w.heap.size w w30) := ⟨(by rw [hw]; exact (by repeat (first | (with_reducible first|exact HB.out|apply bA|apply bN|apply bD | refine below_set ?_ GE201.out) | exact HB.out)))⟩; clear hw; clear HO_3; clear BK201; clear HB; have HO_3 := n0_; have BK201 := n1_; have HB := n2_; clear n0_ n1_ n2_; have hcz31_0 : w30.cell? ⟨gb201, 0, none⟩ = some (.int .u8 ((rd_T63 l0 x9_1).f0)) := (blk_cell BK201.out 0).trans rfl; have hcz31_1 : w30.cell? ⟨gb201, 1, none⟩ = some (.int .i64 ((rd_T63 l0 x9_1).f1)) := (blk_cell BK201.out 1).trans rfl; have hfz31_0 := blk_frozen BK201.out 0; have hfz31_1 := blk_frozen BK201.out 1; have p27 : 0 ≤ ((ji24) : Int) := of_decide_eq_true (by first|(with_reducible assumption)|assumption); have q27 : ((ji24) : Int) < ((x3_1.length : Int) : Int) := of_decide_eq_true (by first|(with_reducible assumption)|assumption); obtain ⟨go27, co27, eo27, gb27, gl27, cl27, HG27⟩ := Kd.R_form HO_3.out (by omega); (first | cases eo27 | (injection eo27 with ea_ en_ ec_; (first | subst ea_ | (injection ea_ with ea_; subst ea_)); subst ec_; clear en_)); have GB27 := Az.mk gb27; have GG27 := Az.mk HG27; clear gb27 gl27 HG27; obtain ⟨ce27, hcl27, hM27, hcc27, hfr27⟩ := Kd.R_elem HO_3.out z31 ((ji24) : Int) p27 q27; obtain rfl := k31_openM hM27; have hx27_0 : w30.cell? ⟨go27, ((ji24) : Int).toNat * 3, none⟩ = some (.int .i64 ((rd_T31 x3_1 (ji24)).f0)) := hcc27 0 _ rfl; have hx27_1 : w30.cell? ⟨go27, ((ji24) : Int).toNat * 3 + 1, none⟩ = some (.int .i64 ((rd_T31 x3_1 (ji24)).f1)) := hcc27 1 _ rfl; have hx27_2 : w30.cell? ⟨go27, ((ji24) : Int).toNat * 3 + 2, none⟩ = some (.int .i64 ((rd_T31 x3_1 (ji24)).f2)) := hcc27 2 _ rfl; have hf27_0 : w30.frozen? ⟨go27, ((ji24) : Int).toNat * 3, none⟩ = false := hfr27 0; have hf27_1 : w30.frozen? ⟨go27, ((ji24) : Int).toNat * 3 + 1, none⟩ = false := hfr27 1; have hf27_2 : w30.frozen? ⟨go27, ((ji24) : Int).toNat * 3 + 2, none⟩ = false := hfr27 2; clear hcl27 hcc27 hfr27 hM27; replace p27 := eq_true p27; replace q27 := eq_true q27; have HX32 := Az.mk (show Kd.R k31 31 w30 w.heap.size (fun _ => True) (.slice (some ⟨go27, 0, none⟩) x3_1.length co27) x3_1 from (by (with_reducible repeat first|apply Kd.Ra|apply Kd.Rn|apply Kd.Rw); exact HO_3.out)); obtain ⟨ce32, hcl32, hM32, hcc32, hfr32⟩ := Kd.R_elem HX32.out z31 ((ji24) : Int) (of_decide_eq_true (by first|(with_reducible assumption)|assumption)) (by have h_ : ((ji24) : Int) < ((x3_1.length : Int) : Int) := of_decide_eq_true (by first|(with_reducible assumption)|assumption); first | exact h_ | (have e_ := (Kd.R_reads' HO_3.out).1; omega) | simpa using h_); obtain rfl := k31_openM hM32; have HP32 := Kd.R_seg HX32.out ((ji24) : Int) (of_decide_eq_true (by first|(with_reducible assumption)|assumption)) (by have h_ : ((ji24) : Int) < ((x3_1.length : Int) : Int) := of_decide_eq_true (by first|(with_reducible assumption)|assumption); first | exact h_ | (have e_ := (Kd.R_reads' HO_3.out).1; omega) | simpa using h_) (seg := [.int .i64 x9_1]) (j := 2) hcl32 hcc32 (show 3 ≤ 3 from by decide) (x' := (⟨(rd_T31 x3_1 (ji24)).f0, (rd_T31 x3_1 (ji24)).f1, x9_1⟩ : S31)) (k31_mkM _ _ _ (⟨(rd_T31 x3_1 (ji24)).f0, (rd_T31 x3_1 (ji24)).f1, x9_1⟩ : S31) ) (fun _ hk => hk); have hx32_2 := hcc32 2 _ rfl; (try simp only [show (k31).sz = 3 from rfl, Nat.mul_one, Nat.add_zero] at hx32_2); have hf32_2 := hfr32 2; (try simp only [show (k31).sz = 3 from rfl, Nat.mul_one, Nat.add_zero] at hf32_2); clear hcl32 hcc32 hfr32 hM32) | ((with_reducible refine gate_store (t := 3) (p := 41) rfl ?_); refine store_event (t := 3) (p := 41) (v := ?vo_w33) (w1 := (w30.setCell ⟨go27, ((ji24) : Int).toNat * 3 + 2, none⟩ (.int .i64 x9_1))) ?hg ?ho ?hn ?hr ?_; (case ho => rfl); (case hg => rfl); (case hn => rfl); (case hr => first | (go_simp; done) | (go_simp; rfl)); intro w33 hw; have hg : w30.grownBy w33 (some go27) := (by rw [hw]; exact HP32.2); have hp_ : Kd.R k31 31 w33 w.heap.size (fun _ => True) (.slice (some ⟨go27, 0, none⟩) x3_1.length co27) y206 := (by rw [hw, Ny206.out]; exact HP32.1); clear HP32; have n0_ := Az.mk (hp_); have n1_ := Az.mk (blk_grown (g := gb201) (o := .cells #[.int .u8 ((rd_T63 l0 x9_1).f0), .int .i64 ((rd_T63 l0 x9_1).f1)] 63 (0, 0)) (by (with_reducible repeat first|refine blN ?_ _|refine bl1 ?_|refine blA ?_ _); exact BK201.out) hg (Kd.R_ne HO_3.out BK201.out (by decide))); have n2_ := Az.mk ((by rw [hw]; exact below_set (HB.out) GB27.out : Below w.heap.size w w33)); clear HO_3; clear BK201; clear HB; have HO_3 := n0_; have BK201 := n1_; have HB := n2_; clear n0_ n1_ n2_; clear hg hw hp_))
           go_roundg k1
           case measure => have := HK1.out; omega
           case rel => exact ⟨(y206), (wrap64 (x9_1 + 1)), (by first | rfl | (simp; done) | (simp [*]; done)), H', ⟨by have := HK1.out; omega⟩, ⟨by (with_reducible repeat first|apply Kd.Ra|apply Kd.Rn|apply Kd.Rw); exact HO_3.out⟩, ⟨by repeat (first | (with_reducible first|exact HB.out|apply bA|apply bN|apply bD | refine below_set ?_ GE201.out) | exact HB.out)⟩⟩
          ·rw [if_neg c26] at H
           exact absurd H (by simp)
         ·rw [if_neg c25] at H
          exact absurd H (by simp)
        ·rw [if_neg c23] at H
         have c23b0 : (((rd_T63 l0 x9_1).f0) == 45) = false := beq_eq_false_iff_ne.mpr c23
         have c23b1 : (((rd_T63 l0 x9_1).f0) != 45) = true := bne_iff_ne.mpr c23
         have H' := Az.mk H
         clear H
         have p200 : 0 ≤ (x9_1 : Int) := of_decide_eq_true (by first|(with_reducible assumption)|assumption)
         have q200 : x9_1 < (l0.length : Int) := of_decide_eq_true (by first|(with_reducible assumption)|assumption)
         obtain ⟨ad200, e200, hx200_0, hx200_1⟩ := at_T63 HR0.out x9_1 p200 q200
         cases e200
         replace hx200_0 := (HB.out.cell (World.block_lt_of_cell? w _ hx200_0)).trans hx200_0
         replace hx200_1 := (HB.out.cell (World.block_lt_of_cell? w _ hx200_1)).trans hx200_1
         replace p200 := eq_true p200
         replace q200 := eq_true q200
         go_wp2_with (first | ((with_reducible refine gate_dst (N := 5) rfl ?_); refine box_event ?hg (N := 5) ?hd (cs := #[.int .u8 0, .int .i64 0]) (t := 63) ?hr ?_; (case hd => rfl); (case hg => rfl); (case hr => first | (go_simp; done) | (go_simp; rfl)); intro gb201 hg w34 hbox hb; have n0_ := Az.mk (Kd.Rb (by (with_reducible repeat first|apply Kd.Ra|apply Kd.Rn|apply Kd.Rw); exact HO_3.out) hb); have n1_ := Az.mk (bS (by repeat first|exact HB.out|apply bA|apply bN|apply bD) hb); have n2_ := Az.mk (hbox); have n3_ := Az.mk ((by rw [hg]; exact (bZ (by repeat first|exact HB.out|apply bA|apply bN|apply bD)) : w.heap.size ≤ gb201)); have n4_ := Az.mk ((by rw [hg]; exact (bZ (by repeat first|exact HB.out|apply bA|apply bN|apply bD)) : w.heap.size ≤ gb201)); clear HO_3; clear HB; have HO_3 := n0_; have HB := n1_; have BK201 := n2_; have GW201 := n3_; have GE201 := n4_; clear n0_ n1_ n2_ n3_ n4_; clear hb hbox hg; have hcz35_0 : w34.cell? ⟨gb201, 0, none⟩ = some (.int .u8 0) := (blk_cell BK201.out 0).trans rfl; have hcz35_1 : w34.cell? ⟨gb201, 1, none⟩ = some (.int .i64 0) := (blk_cell BK201.out 1).trans rfl; have hfz35_0 := blk_frozen BK201.out 0; have hfz35_1 := blk_frozen BK201.out 1))
         go_roundg k1
         case measure => have := HK1.out; omega
         case rel => exact ⟨(x3_1), (wrap64 (x9_1 + 1)), (by first | rfl | (simp; done) | (simp [*]; done)), H', ⟨by have := HK1.out; omega⟩, ⟨by (with_reducible repeat first|apply Kd.Ra|apply Kd.Rn|apply Kd.Rw); exact Kd.R_mono (Kd.R_far (p := ⟨gb201, 1, none⟩) (Kd.R_far (p := ⟨gb201, 0, none⟩) (Kd.R_types HO_3.out BK201.out (by decide)) (fun _ hk => hk.2) (.int .u8 ((rd_T63 l0 x9_1).f0))) (fun _ hk => hk.2) (.int .i64 ((rd_T63 l0 x9_1).f1))) (fun _ hk => trivial)⟩, ⟨by repeat (first | (with_reducible first|exact HB.out|apply bA|apply bN|apply bD | refine below_set ?_ GE201.out) | exact HB.out)⟩⟩
     ·rw [if_neg c6] at H
      exact absurd H (by simp)
    ·rw [if_neg c5] at H
     exact absurd H (by simp)
   ·rw [if_neg c4] at H
    have c4b0 : decide (x9_1 < (l0.length : Int)) = false := decide_eq_false c4
    clear c4
    obtain rfl := Option.some.inj H
    go_wp2
    go_ret
    exact ⟨_, by first | rfl | (simp [errW_none, errW_some] <;> rfl) | (simp [*, errW_none, errW_some] <;> rfl), by (with_reducible repeat first|apply Kd.Ra|apply Kd.Rn|apply Kd.Rw); exact HO_3.out, by repeat (first | (with_reducible first|exact HB.out|apply bA|apply bN|apply bD) | exact HB.out)⟩
def spec_l7Alive.l0 : Nat → Int → List Int → List (S31) → Int → Int → Option (List Int)
 | 0, _, _, _, _, _ => none
 | k + 1, x1, x5, x9, x10, x11 => if x11 < x10 then (if 0 ≤ x11 then (if x11 < (x9.length : Int) then (if ((rd_T31 x9 x11).f0) ≤ x1 then (if ((rd_T31 x9 x11).f2) < 0 then (if x5.length < 17592186044416 then (spec_l7Alive.l0 k x1 (x5 ++ [wrap64 (x11 + 1)]) x9 x10 (wrap64 (x11 + 1))) else (none)) else (if ((rd_T31 x9 x11).f2) > x1 then (if x5.length < 17592186044416 then (spec_l7Alive.l0 k x1 (x5 ++ [wrap64 (x11 + 1)]) x9 x10 (wrap64 (x11 + 1))) else (none)) else (spec_l7Alive.l0 k x1 x5 x9 x10 (wrap64 (x11 + 1))))) else (spec_l7Alive.l0 k x1 x5 x9 x10 (wrap64 (x11 + 1)))) else (none)) else (none)) else (some x5)
def spec_l7Alive.f (k : Nat) (l0 : List (S31)) (a1 : Int) : Option (List Int) := spec_l7Alive.l0 k a1 (([] : List Int)) l0 (l0.length : Int) 0
set_option maxHeartbeats 8000000 in
set_option maxRecDepth 100000 in
theorem spec_l7Alive.calls (k : Nat) (A0 : Option Addr) (c0 : Nat) (l0 : List (S31)) (a1 : Int) (r : List Int) (w : World) (hr0 : Kd.C k31 w A0 l0.length l0) (hc0 : l0.length ≤ c0) (h : spec_l7Alive.f k l0 a1 = some r) :
  Calls Tryz.prog 66 #[.slice A0 l0.length c0, .int .i64 a1] w fun e w' => ∃ v0_ : Value, e = .returned (v0_) ∧ Kd.R (Kd.int .i64) 3 w' w.heap.size (fun _ => True) v0_ r ∧ Below w.heap.size w w' := by
 have hu31 := Tryz.underlying31
 have HR0 := Az.mk hr0
 have HC0 := Az.mk hc0
 clear hr0 hc0
 have HB := Az.mk (Below.refl w.heap.size w)
 have H : (spec_l7Alive.l0 k a1 (([] : List Int)) l0 (l0.length : Int) 0) = some r := h
 clear h
 obtain ⟨y535, hy535⟩ : ∃ y_ : List Int, y_ = (([] : List Int)) := ⟨_, rfl⟩
 replace H : (spec_l7Alive.l0 k a1 y535 l0 (l0.length : Int) 0) = some r := by first | (rw [hy535]; with_reducible exact H) | (have H2_ := (Option.bind_some _ _).symm.trans H; rw [hy535]; with_reducible exact H2_) | (have H2_ := (Option.bind_some _ _).symm.trans H; with_reducible exact H2_) | with_reducible exact H | (rw [hy535]; exact H) | exact H
 have Ny535 := Az.mk hy535
 clear hy535
 have H' := Az.mk H
 clear H
 go_enter Tryz.func66, Tryz.ntmps66
 go_wp2_with (first | ((with_reducible refine gate_dst (N := 8) rfl ?_); refine Kd.R_lit (Kd.int .i64) _ 3 ?hg (N := 8) ?hd (xs := ([] : List Int)) (inner := []) (ok := fun _ => True) (okp := fun _ => True) ?hr ?hp (fun _ hk => hk) trivial (Below.refl _ _) (Nat.le_refl _) (by simp) ?_; (case hd => rfl); (case hg => rfl); (case hr => first | (go_simp; done) | (go_simp; rfl)); (case hp => exact (Reps.none _ _)); intro v536 w3 ho4 hb hg_ hnew_; clear hg_ hnew_; (first | rw [← Ny535.out] at ho4 | (simp only [Int.reduceToNat] at ho4; rw [← Ny535.out] at ho4)); have n0_ := Az.mk (Kd.R_lower ho4 (bZ (by repeat first|exact HB.out|apply bA|apply bN|apply bD))); have n1_ := Az.mk (bS (by repeat first|exact HB.out|apply bA|apply bN|apply bD) hb); clear HB; have HO537 := n0_; have HB := n1_; clear n0_ n1_; clear hb ho4))
 go_loopg [5, 11] k (fun kq v5 v11 w' => ∃ (x5_1 : List Int) (x11_1 : Int), v11 = .int .i64 x11_1 ∧ Az (spec_l7Alive.l0 kq a1 x5_1 l0 (l0.length : Int) x11_1 = some r) ∧ Az (kq ≤ k) ∧ Az (Kd.R (Kd.int .i64) 3 w' w.heap.size (fun _ => True) v5 x5_1) ∧ Az (Below w.heap.size w w'))
 case atStart => exact ⟨(y535), (0), (by first | rfl | (simp; done) | (simp [*]; done)), H', ⟨Nat.le_refl _⟩, ⟨by (with_reducible repeat first|apply Kd.Ra|apply Kd.Rn|apply Kd.Rw); exact HO537.out⟩, ⟨by repeat (first | (with_reducible first|exact HB.out|apply bA|apply bN|apply bD) | exact HB.out)⟩⟩
 case round =>
  clear H'
  try clear p2
  obtain ⟨x5_1, x11_1, rfl, HA, HK1, HO_5, HB⟩ := hrel
  cases gk with
  | zero => exact absurd HA.out (by simp [spec_l7Alive.l0])
  | succ k1 =>
   have H := HA.out
   clear HA
   simp only [spec_l7Alive.l0] at H
   by_cases c5 : x11_1 < (l0.length : Int)
   ·rw [if_pos c5] at H
    have c5b0 : decide (x11_1 < (l0.length : Int)) = true := decide_eq_true c5
    clear c5
    by_cases c6 : 0 ≤ x11_1
    ·rw [if_pos c6] at H
     have c6b0 : decide (0 ≤ x11_1) = true := decide_eq_true c6
     clear c6
     by_cases c7 : x11_1 < (l0.length : Int)
     ·rw [if_pos c7] at H
      have c7b0 : decide (x11_1 < (l0.length : Int)) = true := decide_eq_true c7
      clear c7
      by_cases c8 : ((rd_T31 l0 x11_1).f0) ≤ a1
      ·rw [if_pos c8] at H
       have c8b0 : decide (((rd_T31 l0 x11_1).f0) ≤ a1) = true := decide_eq_true c8
       clear c8
       by_cases c9 : ((rd_T31 l0 x11_1).f2) < 0
       ·rw [if_pos c9] at H
        have c9b0 : decide (((rd_T31 l0 x11_1).f2) < 0) = true := decide_eq_true c9
        clear c9
        by_cases c10 : x5_1.length < 17592186044416
        ·rw [if_pos c10] at H
         have LMc10 := Az.mk c10
         clear c10
         obtain ⟨y540, hy540⟩ : ∃ y_ : List Int, y_ = (x5_1 ++ [wrap64 (x11_1 + 1)]) := ⟨_, rfl⟩
         replace H : (spec_l7Alive.l0 k1 a1 y540 l0 (l0.length : Int) (wrap64 (x11_1 + 1))) = some r := by first | (rw [hy540]; with_reducible exact H) | (have H2_ := (Option.bind_some _ _).symm.trans H; rw [hy540]; with_reducible exact H2_) | (have H2_ := (Option.bind_some _ _).symm.trans H; with_reducible exact H2_) | with_reducible exact H | (rw [hy540]; exact H) | exact H
         have Ny540 := Az.mk hy540
         clear hy540
         have H' := Az.mk H
         clear H
         have p538 : 0 ≤ (x11_1 : Int) := of_decide_eq_true (by first|(with_reducible assumption)|assumption)
         have q538 : x11_1 < (l0.length : Int) := of_decide_eq_true (by first|(with_reducible assumption)|assumption)
         obtain ⟨ad538, e538, hx538_0, hx538_1, hx538_2⟩ := at_T31 HR0.out x11_1 p538 q538
         cases e538
         replace hx538_0 := (HB.out.cell (World.block_lt_of_cell? w _ hx538_0)).trans hx538_0
         replace hx538_1 := (HB.out.cell (World.block_lt_of_cell? w _ hx538_1)).trans hx538_1
         replace hx538_2 := (HB.out.cell (World.block_lt_of_cell? w _ hx538_2)).trans hx538_2
         replace p538 := eq_true p538
         replace q538 := eq_true q538
         go_wp2_with (first | ((with_reducible refine gate_dst (N := 7) rfl ?_); refine box_event ?hg (N := 7) ?hd (cs := #[.int .i64 0, .int .i64 0, .int .i64 0]) (t := 31) ?hr ?_; (case hd => rfl); (case hg => rfl); (case hr => first | (go_simp; done) | (go_simp; rfl)); intro gb539 hg w11 hbox hb; have n0_ := Az.mk (Kd.Rb (by (with_reducible repeat first|apply Kd.Ra|apply Kd.Rn|apply Kd.Rw); exact HO_5.out) hb); have n1_ := Az.mk (bS (by repeat first|exact HB.out|apply bA|apply bN|apply bD) hb); have n2_ := Az.mk (hbox); have n3_ := Az.mk ((by rw [hg]; exact (bZ (by repeat first|exact HB.out|apply bA|apply bN|apply bD)) : w.heap.size ≤ gb539)); have n4_ := Az.mk ((by rw [hg]; exact (bZ (by repeat first|exact HB.out|apply bA|apply bN|apply bD)) : w.heap.size ≤ gb539)); clear HO_5; clear HB; have HO_5 := n0_; have HB := n1_; have BK539 := n2_; have GW539 := n3_; have GE539 := n4_; clear n0_ n1_ n2_ n3_ n4_; clear hb hbox hg; have hcz12_0 : w11.cell? ⟨gb539, 0, none⟩ = some (.int .i64 0) := (blk_cell BK539.out 0).trans rfl; have hcz12_1 : w11.cell? ⟨gb539, 1, none⟩ = some (.int .i64 0) := (blk_cell BK539.out 1).trans rfl; have hcz12_2 : w11.cell? ⟨gb539, 2, none⟩ = some (.int .i64 0) := (blk_cell BK539.out 2).trans rfl; have hfz12_0 := blk_frozen BK539.out 0; have hfz12_1 := blk_frozen BK539.out 1; have hfz12_2 := blk_frozen BK539.out 2) | ((with_reducible refine gate_builtin (b := .append) (xs := #[.tmp 31, .tmp 34]) rfl ?_); at_builtin; refine Kd.R_append (Kd.int .i64) (w0 := w) w.heap.size rfl (.tmp 31) (.tmp 34) 33 3 (.int .i64 0) 8 rfl Tryz.underlying33 info3 rfl (by decide) (by omega) u5 x5_1 (wrap64 (x11_1 + 1)) [.int .i64 (wrap64 (x11_1 + 1))] (fun _ => True) (fun _ => False) rfl (by first | (go_simp; done) | (go_simp; rfl)) ?aP (fun _ hk => hk.elim) ?aF ?aO ?aB ?aS ?aL ?_; (case aP => exact rfl); (case aB => exact (by repeat (first | (with_reducible first|exact HB.out|apply bA|apply bN|apply bD | refine below_set ?_ GE539.out) | exact HB.out))); (case aF => exact (fun _ _ => trivial)); (case aO => exact (by (with_reducible repeat first|apply Kd.Ra|apply Kd.Rn|apply Kd.Rw); exact Kd.R_mono (Kd.R_far (p := ⟨gb539, 2, none⟩) (Kd.R_far (p := ⟨gb539, 1, none⟩) (Kd.R_far (p := ⟨gb539, 0, none⟩) (Kd.R_types HO_5.out BK539.out (by decide)) (fun _ hk => hk.2) (.int .i64 ((rd_T31 l0 x11_1).f0))) (fun _ hk => hk.2) (.int .i64 ((rd_T31 l0 x11_1).f1))) (fun _ hk => hk.2) (.int .i64 ((rd_T31 l0 x11_1).f2))) (fun _ hk => trivial))); (case aS => exact (bZ (by repeat (first | (with_reducible first|exact HB.out|apply bA|apply bN|apply bD | refine below_set ?_ GE539.out) | exact HB.out)))); (case aL => have := LMc10.out; omega); intro v541 w13 ho hb hg hat; rw [← Ny540.out] at ho; have n0_ := Az.mk (blk_grown (g := gb539) (o := .cells #[.int .i64 ((rd_T31 l0 x11_1).f0), .int .i64 ((rd_T31 l0 x11_1).f1), .int .i64 ((rd_T31 l0 x11_1).f2)] 31 (0, 0)) (by (with_reducible repeat first|refine blN ?_ _|refine bl1 ?_|refine blA ?_ _); refine blk_put (cs := #[.int .i64 ((rd_T31 l0 x11_1).f0), .int .i64 ((rd_T31 l0 x11_1).f1), .int .i64 0]) ?_ 2 _ rfl; (with_reducible repeat first|refine blN ?_ _|refine bl1 ?_|refine blA ?_ _); refine blk_put (cs := #[.int .i64 ((rd_T31 l0 x11_1).f0), .int .i64 0, .int .i64 0]) ?_ 1 _ rfl; (with_reducible repeat first|refine blN ?_ _|refine bl1 ?_|refine blA ?_ _); refine blk_put (cs := #[.int .i64 0, .int .i64 0, .int .i64 0]) ?_ 0 _ rfl; (with_reducible repeat first|refine blN ?_ _|refine bl1 ?_|refine blA ?_ _); exact BK539.out) hg (Kd.R_ne HO_5.out BK539.out (by decide))); have n1_ := Az.mk (hb); have n2_ := Az.mk (ho); clear BK539; clear HB; clear HO_5; have BK539 := n0_; have HB := n1_; have HO542 := n2_; clear n0_ n1_ n2_; clear ho hb hg hat))
         go_roundg k1
         case measure => have := HK1.out; omega
         case rel => exact ⟨(y540), (wrap64 (x11_1 + 1)), (by first | rfl | (simp; done) | (simp [*]; done)), H', ⟨by have := HK1.out; omega⟩, ⟨by (with_reducible repeat first|apply Kd.Ra|apply Kd.Rn|apply Kd.Rw); exact HO542.out⟩, ⟨by repeat (first | (with_reducible first|exact HB.out|apply bA|apply bN|apply bD | refine below_set ?_ GE539.out) | exact HB.out)⟩⟩
        ·rw [if_neg c10] at H
         exact absurd H (by simp)
       ·rw [if_neg c9] at H
        have c9b0 : decide (((rd_T31 l0 x11_1).f2) < 0) = false := decide_eq_false c9
        clear c9
        by_cases c14 : ((rd_T31 l0 x11_1).f2) > a1
        ·rw [if_pos c14] at H
         have c14b0 : decide (a1 < ((rd_T31 l0 x11_1).f2)) = true := decide_eq_true c14
         clear c14
         by_cases c15 : x5_1.length < 17592186044416
         ·rw [if_pos c15] at H
          have LMc15 := Az.mk c15
          clear c15
          obtain ⟨y543, hy543⟩ : ∃ y_ : List Int, y_ = (x5_1 ++ [wrap64 (x11_1 + 1)]) := ⟨_, rfl⟩
          replace H : (spec_l7Alive.l0 k1 a1 y543 l0 (l0.length : Int) (wrap64 (x11_1 + 1))) = some r := by first | (rw [hy543]; with_reducible exact H) | (have H2_ := (Option.bind_some _ _).symm.trans H; rw [hy543]; with_reducible exact H2_) | (have H2_ := (Option.bind_some _ _).symm.trans H; with_reducible exact H2_) | with_reducible exact H | (rw [hy543]; exact H) | exact H
          have Ny543 := Az.mk hy543
          clear hy543
          have H' := Az.mk H
          clear H
          have p538 : 0 ≤ (x11_1 : Int) := of_decide_eq_true (by first|(with_reducible assumption)|assumption)
          have q538 : x11_1 < (l0.length : Int) := of_decide_eq_true (by first|(with_reducible assumption)|assumption)
          obtain ⟨ad538, e538, hx538_0, hx538_1, hx538_2⟩ := at_T31 HR0.out x11_1 p538 q538
          cases e538
          replace hx538_0 := (HB.out.cell (World.block_lt_of_cell? w _ hx538_0)).trans hx538_0
          replace hx538_1 := (HB.out.cell (World.block_lt_of_cell? w _ hx538_1)).trans hx538_1
          replace hx538_2 := (HB.out.cell (World.block_lt_of_cell? w _ hx538_2)).trans hx538_2
          replace p538 := eq_true p538
          replace q538 := eq_true q538
          go_wp2_with (first | ((with_reducible refine gate_dst (N := 7) rfl ?_); refine box_event ?hg (N := 7) ?hd (cs := #[.int .i64 0, .int .i64 0, .int .i64 0]) (t := 31) ?hr ?_; (case hd => rfl); (case hg => rfl); (case hr => first | (go_simp; done) | (go_simp; rfl)); intro gb539 hg w16 hbox hb; have n0_ := Az.mk (Kd.Rb (by (with_reducible repeat first|apply Kd.Ra|apply Kd.Rn|apply Kd.Rw); exact HO_5.out) hb); have n1_ := Az.mk (bS (by repeat first|exact HB.out|apply bA|apply bN|apply bD) hb); have n2_ := Az.mk (hbox); have n3_ := Az.mk ((by rw [hg]; exact (bZ (by repeat first|exact HB.out|apply bA|apply bN|apply bD)) : w.heap.size ≤ gb539)); have n4_ := Az.mk ((by rw [hg]; exact (bZ (by repeat first|exact HB.out|apply bA|apply bN|apply bD)) : w.heap.size ≤ gb539)); clear HO_5; clear HB; have HO_5 := n0_; have HB := n1_; have BK539 := n2_; have GW539 := n3_; have GE539 := n4_; clear n0_ n1_ n2_ n3_ n4_; clear hb hbox hg; have hcz17_0 : w16.cell? ⟨gb539, 0, none⟩ = some (.int .i64 0) := (blk_cell BK539.out 0).trans rfl; have hcz17_1 : w16.cell? ⟨gb539, 1, none⟩ = some (.int .i64 0) := (blk_cell BK539.out 1).trans rfl; have hcz17_2 : w16.cell? ⟨gb539, 2, none⟩ = some (.int .i64 0) := (blk_cell BK539.out 2).trans rfl; have hfz17_0 := blk_frozen BK539.out 0; have hfz17_1 := blk_frozen BK539.out 1; have hfz17_2 := blk_frozen BK539.out 2) | ((with_reducible refine gate_builtin (b := .append) (xs := #[.tmp 31, .tmp 34]) rfl ?_); at_builtin; refine Kd.R_append (Kd.int .i64) (w0 := w) w.heap.size rfl (.tmp 31) (.tmp 34) 33 3 (.int .i64 0) 8 rfl Tryz.underlying33 info3 rfl (by decide) (by omega) u5 x5_1 (wrap64 (x11_1 + 1)) [.int .i64 (wrap64 (x11_1 + 1))] (fun _ => True) (fun _ => False) rfl (by first | (go_simp; done) | (go_simp; rfl)) ?aP (fun _ hk => hk.elim) ?aF ?aO ?aB ?aS ?aL ?_; (case aP => exact rfl); (case aB => exact (by repeat (first | (with_reducible first|exact HB.out|apply bA|apply bN|apply bD | refine below_set ?_ GE539.out) | exact HB.out))); (case aF => exact (fun _ _ => trivial)); (case aO => exact (by (with_reducible repeat first|apply Kd.Ra|apply Kd.Rn|apply Kd.Rw); exact Kd.R_mono (Kd.R_far (p := ⟨gb539, 2, none⟩) (Kd.R_far (p := ⟨gb539, 1, none⟩) (Kd.R_far (p := ⟨gb539, 0, none⟩) (Kd.R_types HO_5.out BK539.out (by decide)) (fun _ hk => hk.2) (.int .i64 ((rd_T31 l0 x11_1).f0))) (fun _ hk => hk.2) (.int .i64 ((rd_T31 l0 x11_1).f1))) (fun _ hk => hk.2) (.int .i64 ((rd_T31 l0 x11_1).f2))) (fun _ hk => trivial))); (case aS => exact (bZ (by repeat (first | (with_reducible first|exact HB.out|apply bA|apply bN|apply bD | refine below_set ?_ GE539.out) | exact HB.out)))); (case aL => have := LMc15.out; omega); intro v544 w18 ho hb hg hat; rw [← Ny543.out] at ho; have n0_ := Az.mk (blk_grown (g := gb539) (o := .cells #[.int .i64 ((rd_T31 l0 x11_1).f0), .int .i64 ((rd_T31 l0 x11_1).f1), .int .i64 ((rd_T31 l0 x11_1).f2)] 31 (0, 0)) (by (with_reducible repeat first|refine blN ?_ _|refine bl1 ?_|refine blA ?_ _); refine blk_put (cs := #[.int .i64 ((rd_T31 l0 x11_1).f0), .int .i64 ((rd_T31 l0 x11_1).f1), .int .i64 0]) ?_ 2 _ rfl; (with_reducible repeat first|refine blN ?_ _|refine bl1 ?_|refine blA ?_ _); refine blk_put (cs := #[.int .i64 ((rd_T31 l0 x11_1).f0), .int .i64 0, .int .i64 0]) ?_ 1 _ rfl; (with_reducible repeat first|refine blN ?_ _|refine bl1 ?_|refine blA ?_ _); refine blk_put (cs := #[.int .i64 0, .int .i64 0, .int .i64 0]) ?_ 0 _ rfl; (with_reducible repeat first|refine blN ?_ _|refine bl1 ?_|refine blA ?_ _); exact BK539.out) hg (Kd.R_ne HO_5.out BK539.out (by decide))); have n1_ := Az.mk (hb); have n2_ := Az.mk (ho); clear BK539; clear HB; clear HO_5; have BK539 := n0_; have HB := n1_; have HO545 := n2_; clear n0_ n1_ n2_; clear ho hb hg hat))
          go_roundg k1
          case measure => have := HK1.out; omega
          case rel => exact ⟨(y543), (wrap64 (x11_1 + 1)), (by first | rfl | (simp; done) | (simp [*]; done)), H', ⟨by have := HK1.out; omega⟩, ⟨by (with_reducible repeat first|apply Kd.Ra|apply Kd.Rn|apply Kd.Rw); exact HO545.out⟩, ⟨by repeat (first | (with_reducible first|exact HB.out|apply bA|apply bN|apply bD | refine below_set ?_ GE539.out) | exact HB.out)⟩⟩
         ·rw [if_neg c15] at H
          exact absurd H (by simp)
        ·rw [if_neg c14] at H
         have c14b0 : decide (a1 < ((rd_T31 l0 x11_1).f2)) = false := decide_eq_false c14
         clear c14
         have H' := Az.mk H
         clear H
         have p538 : 0 ≤ (x11_1 : Int) := of_decide_eq_true (by first|(with_reducible assumption)|assumption)
         have q538 : x11_1 < (l0.length : Int) := of_decide_eq_true (by first|(with_reducible assumption)|assumption)
         obtain ⟨ad538, e538, hx538_0, hx538_1, hx538_2⟩ := at_T31 HR0.out x11_1 p538 q538
         cases e538
         replace hx538_0 := (HB.out.cell (World.block_lt_of_cell? w _ hx538_0)).trans hx538_0
         replace hx538_1 := (HB.out.cell (World.block_lt_of_cell? w _ hx538_1)).trans hx538_1
         replace hx538_2 := (HB.out.cell (World.block_lt_of_cell? w _ hx538_2)).trans hx538_2
         replace p538 := eq_true p538
         replace q538 := eq_true q538
         go_wp2_with (first | ((with_reducible refine gate_dst (N := 7) rfl ?_); refine box_event ?hg (N := 7) ?hd (cs := #[.int .i64 0, .int .i64 0, .int .i64 0]) (t := 31) ?hr ?_; (case hd => rfl); (case hg => rfl); (case hr => first | (go_simp; done) | (go_simp; rfl)); intro gb539 hg w19 hbox hb; have n0_ := Az.mk (Kd.Rb (by (with_reducible repeat first|apply Kd.Ra|apply Kd.Rn|apply Kd.Rw); exact HO_5.out) hb); have n1_ := Az.mk (bS (by repeat first|exact HB.out|apply bA|apply bN|apply bD) hb); have n2_ := Az.mk (hbox); have n3_ := Az.mk ((by rw [hg]; exact (bZ (by repeat first|exact HB.out|apply bA|apply bN|apply bD)) : w.heap.size ≤ gb539)); have n4_ := Az.mk ((by rw [hg]; exact (bZ (by repeat first|exact HB.out|apply bA|apply bN|apply bD)) : w.heap.size ≤ gb539)); clear HO_5; clear HB; have HO_5 := n0_; have HB := n1_; have BK539 := n2_; have GW539 := n3_; have GE539 := n4_; clear n0_ n1_ n2_ n3_ n4_; clear hb hbox hg; have hcz20_0 : w19.cell? ⟨gb539, 0, none⟩ = some (.int .i64 0) := (blk_cell BK539.out 0).trans rfl; have hcz20_1 : w19.cell? ⟨gb539, 1, none⟩ = some (.int .i64 0) := (blk_cell BK539.out 1).trans rfl; have hcz20_2 : w19.cell? ⟨gb539, 2, none⟩ = some (.int .i64 0) := (blk_cell BK539.out 2).trans rfl; have hfz20_0 := blk_frozen BK539.out 0; have hfz20_1 := blk_frozen BK539.out 1; have hfz20_2 := blk_frozen BK539.out 2))
         go_roundg k1
         case measure => have := HK1.out; omega
         case rel => exact ⟨(x5_1), (wrap64 (x11_1 + 1)), (by first | rfl | (simp; done) | (simp [*]; done)), H', ⟨by have := HK1.out; omega⟩, ⟨by (with_reducible repeat first|apply Kd.Ra|apply Kd.Rn|apply Kd.Rw); exact Kd.R_mono (Kd.R_far (p := ⟨gb539, 2, none⟩) (Kd.R_far (p := ⟨gb539, 1, none⟩) (Kd.R_far (p := ⟨gb539, 0, none⟩) (Kd.R_types HO_5.out BK539.out (by decide)) (fun _ hk => hk.2) (.int .i64 ((rd_T31 l0 x11_1).f0))) (fun _ hk => hk.2) (.int .i64 ((rd_T31 l0 x11_1).f1))) (fun _ hk => hk.2) (.int .i64 ((rd_T31 l0 x11_1).f2))) (fun _ hk => trivial)⟩, ⟨by repeat (first | (with_reducible first|exact HB.out|apply bA|apply bN|apply bD | refine below_set ?_ GE539.out) | exact HB.out)⟩⟩
      ·rw [if_neg c8] at H
       have c8b0 : decide (((rd_T31 l0 x11_1).f0) ≤ a1) = false := decide_eq_false c8
       clear c8
       have H' := Az.mk H
       clear H
       have p538 : 0 ≤ (x11_1 : Int) := of_decide_eq_true (by first|(with_reducible assumption)|assumption)
       have q538 : x11_1 < (l0.length : Int) := of_decide_eq_true (by first|(with_reducible assumption)|assumption)
       obtain ⟨ad538, e538, hx538_0, hx538_1, hx538_2⟩ := at_T31 HR0.out x11_1 p538 q538
       cases e538
       replace hx538_0 := (HB.out.cell (World.block_lt_of_cell? w _ hx538_0)).trans hx538_0
       replace hx538_1 := (HB.out.cell (World.block_lt_of_cell? w _ hx538_1)).trans hx538_1
       replace hx538_2 := (HB.out.cell (World.block_lt_of_cell? w _ hx538_2)).trans hx538_2
       replace p538 := eq_true p538
       replace q538 := eq_true q538
       go_wp2_with (first | ((with_reducible refine gate_dst (N := 7) rfl ?_); refine box_event ?hg (N := 7) ?hd (cs := #[.int .i64 0, .int .i64 0, .int .i64 0]) (t := 31) ?hr ?_; (case hd => rfl); (case hg => rfl); (case hr => first | (go_simp; done) | (go_simp; rfl)); intro gb539 hg w21 hbox hb; have n0_ := Az.mk (Kd.Rb (by (with_reducible repeat first|apply Kd.Ra|apply Kd.Rn|apply Kd.Rw); exact HO_5.out) hb); have n1_ := Az.mk (bS (by repeat first|exact HB.out|apply bA|apply bN|apply bD) hb); have n2_ := Az.mk (hbox); have n3_ := Az.mk ((by rw [hg]; exact (bZ (by repeat first|exact HB.out|apply bA|apply bN|apply bD)) : w.heap.size ≤ gb539)); have n4_ := Az.mk ((by rw [hg]; exact (bZ (by repeat first|exact HB.out|apply bA|apply bN|apply bD)) : w.heap.size ≤ gb539)); clear HO_5; clear HB; have HO_5 := n0_; have HB := n1_; have BK539 := n2_; have GW539 := n3_; have GE539 := n4_; clear n0_ n1_ n2_ n3_ n4_; clear hb hbox hg; have hcz22_0 : w21.cell? ⟨gb539, 0, none⟩ = some (.int .i64 0) := (blk_cell BK539.out 0).trans rfl; have hcz22_1 : w21.cell? ⟨gb539, 1, none⟩ = some (.int .i64 0) := (blk_cell BK539.out 1).trans rfl; have hcz22_2 : w21.cell? ⟨gb539, 2, none⟩ = some (.int .i64 0) := (blk_cell BK539.out 2).trans rfl; have hfz22_0 := blk_frozen BK539.out 0; have hfz22_1 := blk_frozen BK539.out 1; have hfz22_2 := blk_frozen BK539.out 2))
       go_roundg k1
       case measure => have := HK1.out; omega
       case rel => exact ⟨(x5_1), (wrap64 (x11_1 + 1)), (by first | rfl | (simp; done) | (simp [*]; done)), H', ⟨by have := HK1.out; omega⟩, ⟨by (with_reducible repeat first|apply Kd.Ra|apply Kd.Rn|apply Kd.Rw); exact Kd.R_mono (Kd.R_far (p := ⟨gb539, 2, none⟩) (Kd.R_far (p := ⟨gb539, 1, none⟩) (Kd.R_far (p := ⟨gb539, 0, none⟩) (Kd.R_types HO_5.out BK539.out (by decide)) (fun _ hk => hk.2) (.int .i64 ((rd_T31 l0 x11_1).f0))) (fun _ hk => hk.2) (.int .i64 ((rd_T31 l0 x11_1).f1))) (fun _ hk => hk.2) (.int .i64 ((rd_T31 l0 x11_1).f2))) (fun _ hk => trivial)⟩, ⟨by repeat (first | (with_reducible first|exact HB.out|apply bA|apply bN|apply bD | refine below_set ?_ GE539.out) | exact HB.out)⟩⟩
     ·rw [if_neg c7] at H
      exact absurd H (by simp)
    ·rw [if_neg c6] at H
     exact absurd H (by simp)
   ·rw [if_neg c5] at H
    have c5b0 : decide (x11_1 < (l0.length : Int)) = false := decide_eq_false c5
    clear c5
    obtain rfl := Option.some.inj H
    go_wp2
    go_ret
    exact ⟨_, by first | rfl | (simp [errW_none, errW_some] <;> rfl) | (simp [*, errW_none, errW_some] <;> rfl), by (with_reducible repeat first|apply Kd.Ra|apply Kd.Rn|apply Kd.Rw); exact HO_5.out, by repeat (first | (with_reducible first|exact HB.out|apply bA|apply bN|apply bD) | exact HB.out)⟩
def spec_MostAlive.l0 : Nat → List (S63) → Int → Int → Int → Option (Int)
 | 0, _, _, _, _ => none
 | k + 1, x3, x5, x15, x16 => if x16 < x15 then ((spec_l7Lives.f k x3).bind fun t707 => ((spec_l7Alive.f k t707 x16).bind fun t710 => (spec_MostAlive.l0 k x3 (mx x5 (t710.length : Int)) x15 (wrap64 (x16 + 1))))) else (some x5)
def spec_MostAlive.f (k : Nat) (a0 : ByteArray) : Option (Int) := (spec_l7Read.f k a0).bind fun bt703 => (if bt703.2 = true then (spec_MostAlive.l0 k bt703.1 0 (bt703.1.length : Int) 0) else (some (-1)))
set_option maxHeartbeats 8000000 in
set_option maxRecDepth 100000 in
theorem spec_MostAlive.calls (k : Nat) (a0 : ByteArray) (r : Int) (w : World) (h : spec_MostAlive.f k a0 = some r) :
  Calls Tryz.prog 44 #[.string a0] w fun e w' => e = .returned (.int .i64 r) ∧ Below w.heap.size w w' := by
 have HB := Az.mk (Below.refl w.heap.size w)
 have H : ((spec_l7Read.f k a0).bind fun bt703 => (if bt703.2 = true then (spec_MostAlive.l0 k bt703.1 0 (bt703.1.length : Int) 0) else (some (-1)))) = some r := h
 clear h
 replace H := Option.bind_eq_some_iff.mp H
 obtain ⟨⟨t703, t704⟩, A20, H⟩ := H
 replace H : (if t704 = true then (spec_MostAlive.l0 k t703 0 (t703.length : Int) 0) else (some (-1))) = some r := H
 have A2 := Az.mk A20
 clear A20
 by_cases c3 : t704 = true
 ·subst c3
  have H1 : (spec_MostAlive.l0 k t703 0 (t703.length : Int) 0) = some r := by rw [if_pos rfl] at H; exact H
  clear H
  have H := H1
  clear H1
  have H' := Az.mk H
  clear H
  go_enter Tryz.func44, Tryz.ntmps44
  go_wp2_with (first | ((with_reducible refine gate_callee (f := 54) rfl ?_); refine goesL_ (some 9) rfl rfl Tryz.func54 (by kernel_rfl) rfl #[.string a0] rfl (by (try simp only [List.map_toArray, List.map_cons, List.map_nil]); first | done | rfl | (simp only [List.length_drop, List.length_take]; rfl)) ?_; (with_reducible refine (spec_l7Read.calls k a0 t703 true _ A2.out).mono ?_); rintro e w4 ⟨v705, rfl, ho0, hb⟩; refine ⟨_, rfl, ?_⟩; have n0_ := Az.mk (Kd.R_lower ho0 (bZ (by repeat first|exact HB.out|apply bA|apply bN|apply bD))); have n1_ := Az.mk (bS (by repeat first|exact HB.out|apply bA|apply bN|apply bD) hb); clear HB; have HO706 := n0_; have HB := n1_; clear n0_ n1_; (try clear hb); (try clear hb2); (try clear hk); (try clear hi); (try clear ho0); obtain ⟨Ao5, co5, eo5⟩ := Kd.R_slice HO706.out; subst eo5))
  go_loopg [5, 16] k (fun kq v5 v16 w' => ∃ (x5_1 : Int) (x16_1 : Int), v5 = .int .i64 x5_1 ∧ v16 = .int .i64 x16_1 ∧ Az (spec_MostAlive.l0 kq t703 x5_1 (t703.length : Int) x16_1 = some r) ∧ Az (kq ≤ k) ∧ Az (Kd.R k63 63 w' w.heap.size (fun _ => True) (.slice Ao5 t703.length co5) t703) ∧ Az (Below w.heap.size w w'))
  case atStart => exact ⟨(0), (0), (by first | rfl | (simp; done) | (simp [*]; done)), (by first | rfl | (simp; done) | (simp [*]; done)), H', ⟨Nat.le_refl _⟩, ⟨by (with_reducible repeat first|apply Kd.Ra|apply Kd.Rn|apply Kd.Rw); exact HO706.out⟩, ⟨by repeat (first | (with_reducible first|exact HB.out|apply bA|apply bN|apply bD) | exact HB.out)⟩⟩
  case round =>
   clear H'
   try clear p2
   try clear c3
   try clear c4
   try clear c5
   obtain ⟨x5_1, x16_1, rfl, rfl, HA, HK1, HO_3, HB⟩ := hrel
   cases gk with
   | zero => exact absurd HA.out (by simp [spec_MostAlive.l0])
   | succ k1 =>
    have H := HA.out
    clear HA
    simp only [spec_MostAlive.l0] at H
    by_cases c6 : x16_1 < (t703.length : Int)
    ·rw [if_pos c6] at H
     have c6b0 : decide (x16_1 < (t703.length : Int)) = true := decide_eq_true c6
     clear c6
     replace H := Option.bind_eq_some_iff.mp H
     obtain ⟨t707, A70, H⟩ := H
     replace H : ((spec_l7Alive.f k1 t707 x16_1).bind fun t710 => (spec_MostAlive.l0 k1 t703 (mx x5_1 (t710.length : Int)) (t703.length : Int) (wrap64 (x16_1 + 1)))) = some r := H
     have A7 := Az.mk A70
     clear A70
     replace H := Option.bind_eq_some_iff.mp H
     obtain ⟨t710, A80, H⟩ := H
     replace H : (spec_MostAlive.l0 k1 t703 (mx x5_1 (t710.length : Int)) (t703.length : Int) (wrap64 (x16_1 + 1))) = some r := H
     have A8 := Az.mk A80
     clear A80
     obtain ⟨ji9, hji9⟩ : ∃ j_ : Int, (mx x5_1 (t710.length : Int)) = j_ := ⟨_, rfl⟩
     replace H : (spec_MostAlive.l0 k1 t703 ji9 (t703.length : Int) (wrap64 (x16_1 + 1))) = some r := by first | (rw [hji9] at H; exact H) | (simp only [hji9] at H ⊢; exact H)
     (try rw [hji9] at A7)
     (try rw [hji9] at A8)
     have hji9_ : (if x5_1 < (t710.length : Int) then (t710.length : Int) else x5_1) = ji9 := hji9
     have H' := Az.mk H
     clear H
     go_wp2_with (first | ((with_reducible refine gate_callee (f := 55) rfl ?_); refine goesL_ (some 21) rfl rfl Tryz.func55 (by kernel_rfl) rfl #[.slice Ao5 t703.length co5] rfl (by (try simp only [List.map_toArray, List.map_cons, List.map_nil]); first | done | rfl | (simp only [List.length_drop, List.length_take]; rfl)) ?_; (with_reducible refine (spec_l7Lives.calls k1 _ _ t703 t707 _ ?side1 ?side2 A7.out).mono ?_); (case side1 => repeat (first | exact (Kd.R_reads' HO_3.out).2.2 | (with_reducible refine Kd.C_alloc ?_ _) | (with_reducible refine Kd.C_drewN ?_ _) | (with_reducible refine Kd.C_drew ?_))); (case side2 => exact (Kd.R_reads' HO_3.out).2.1); rintro e w10 ⟨v708, rfl, ho0, hb⟩; refine ⟨_, rfl, ?_⟩; have n0_ := Az.mk (Kd.Rb (by (with_reducible repeat first|apply Kd.Ra|apply Kd.Rn|apply Kd.Rw); exact HO_3.out) hb); have n1_ := Az.mk (Kd.R_lower ho0 (bZ (by repeat first|exact HB.out|apply bA|apply bN|apply bD))); have n2_ := Az.mk (bS (by repeat first|exact HB.out|apply bA|apply bN|apply bD) hb); clear HO_3; clear HB; have HO_3 := n0_; have HO709 := n1_; have HB := n2_; clear n0_ n1_ n2_; (try clear hb); (try clear hb2); (try clear hk); (try clear hi); (try clear ho0); obtain ⟨Ao11, co11, eo11⟩ := Kd.R_slice HO709.out; subst eo11) | ((with_reducible refine gate_callee (f := 66) rfl ?_); refine goesL_ (some 23) rfl rfl Tryz.func66 (by kernel_rfl) rfl #[.slice Ao11 t707.length co11, .int .i64 x16_1] rfl (by (try simp only [List.map_toArray, List.map_cons, List.map_nil]); first | done | rfl | (simp only [List.length_drop, List.length_take]; rfl)) ?_; (with_reducible refine (spec_l7Alive.calls k1 _ _ t707 x16_1 t710 _ ?side1 ?side2 A8.out).mono ?_); (case side1 => repeat (first | exact (Kd.R_reads' HO709.out).2.2 | (with_reducible refine Kd.C_alloc ?_ _) | (with_reducible refine Kd.C_drewN ?_ _) | (with_reducible refine Kd.C_drew ?_))); (case side2 => exact (Kd.R_reads' HO709.out).2.1); rintro e w12 ⟨v711, rfl, ho0, hb⟩; refine ⟨_, rfl, ?_⟩; have n0_ := Az.mk (Kd.Rb (by (with_reducible repeat first|apply Kd.Ra|apply Kd.Rn|apply Kd.Rw); exact HO_3.out) hb); have n1_ := Az.mk (Kd.Rb (by (with_reducible repeat first|apply Kd.Ra|apply Kd.Rn|apply Kd.Rw); exact HO709.out) hb); have n2_ := Az.mk (Kd.R_lower ho0 (bZ (by repeat first|exact HB.out|apply bA|apply bN|apply bD))); have n3_ := Az.mk (bS (by repeat first|exact HB.out|apply bA|apply bN|apply bD) hb); clear HO_3; clear HO709; clear HB; have HO_3 := n0_; have HO709 := n1_; have HO712 := n2_; have HB := n3_; clear n0_ n1_ n2_ n3_; (try clear hb); (try clear hb2); (try clear hk); (try clear hi); (try clear ho0); obtain ⟨Ao13, co13, eo13⟩ := Kd.R_slice HO712.out; subst eo13))
     go_roundg k1
     case measure => have := HK1.out; omega
     case rel => exact ⟨(ji9), (wrap64 (x16_1 + 1)), (by first | rfl | (simp; done) | (simp only [← hji9] <;> (first | rfl | simp)) | (simp [*]; done)), (by first | rfl | (simp; done) | (simp [*]; done)), H', ⟨by have := HK1.out; omega⟩, ⟨by (with_reducible repeat first|apply Kd.Ra|apply Kd.Rn|apply Kd.Rw); exact HO_3.out⟩, ⟨by repeat (first | (with_reducible first|exact HB.out|apply bA|apply bN|apply bD) | exact HB.out)⟩⟩
    ·rw [if_neg c6] at H
     have c6b0 : decide (x16_1 < (t703.length : Int)) = false := decide_eq_false c6
     clear c6
     obtain rfl := Option.some.inj H
     go_wp2
     go_ret
     exact ⟨by first | rfl | (simp [errW_none, errW_some] <;> rfl) | (simp [*, errW_none, errW_some] <;> rfl), by repeat (first | (with_reducible first|exact HB.out|apply bA|apply bN|apply bD) | exact HB.out)⟩
 ·replace c3 := Bool.eq_false_iff.mpr c3
  subst c3
  have H1 : (some (-1)) = some r := by rw [if_neg (show ¬ (false = true) by decide)] at H; exact H
  clear H
  have H := H1
  clear H1
  obtain rfl := Option.some.inj H
  go_enter Tryz.func44, Tryz.ntmps44
  go_wp2_with (first | ((with_reducible refine gate_callee (f := 54) rfl ?_); refine goesL_ (some 9) rfl rfl Tryz.func54 (by kernel_rfl) rfl #[.string a0] rfl (by (try simp only [List.map_toArray, List.map_cons, List.map_nil]); first | done | rfl | (simp only [List.length_drop, List.length_take]; rfl)) ?_; (with_reducible refine (spec_l7Read.calls k a0 t703 false _ A2.out).mono ?_); rintro e w14 ⟨v705, rfl, ho0, hb⟩; refine ⟨_, rfl, ?_⟩; have n0_ := Az.mk (Kd.R_lower ho0 (bZ (by repeat first|exact HB.out|apply bA|apply bN|apply bD))); have n1_ := Az.mk (bS (by repeat first|exact HB.out|apply bA|apply bN|apply bD) hb); clear HB; have HO706 := n0_; have HB := n1_; clear n0_ n1_; (try clear hb); (try clear hb2); (try clear hk); (try clear hi); (try clear ho0)))
  go_ret
  exact ⟨by first | rfl | (simp [errW_none, errW_some] <;> rfl) | (simp [*, errW_none, errW_some] <;> rfl), by repeat (first | (with_reducible first|exact HB.out|apply bA|apply bN|apply bD) | exact HB.out)⟩
end Go.Proofs.YtndjbnkmhpbnpaaGreatDoor.Pr
