/- MFnNumbersb: texts of this proof, joined. -/
import Derived.Test.YtojhdfdhfajjjaaDoorMFnNumbersa
import Derived.Test.YtojhdfdhfajjjaaDoorProg
import Derived.Below
import Derived.Deep.Draws
import Derived.Deep.AppendLies
import Derived.Maps.AppendAt
import Derived.OwnWalk
import Derived.Laws.BytesArg
import Derived.Laws.MakeOwn
import Derived.Laws.OwnMore
import Derived.Deep.OwnRows
import Derived.Tactics
import Derived.Lib.ConvBytes
import Derived.Laws.Slices
import Derived.WalkKit
import Derived.KernelRfl
import Derived.RowKit3
import Derived.Deep.LoopGhost
import Derived.Deep.QuietTactic
import Derived.BigQuiet
import Derived.WideLaws
import Derived.Deep.DeepCutAuto
import Derived.Deep.CutBlock
import Derived.Deep.RegionHeld3
import Derived.Laws.Rows
import Derived.Lib.AppendStr
import Derived.ArgAppend
import Derived.Laws.IdiomCopy
import Derived.OrdersHeld
import Derived.Laws.BitsLemmas
import Derived.RowKit
import Derived.Deep.RegionWith
import Derived.RegionTactic
import Derived.Handy
import Derived.Outline
import Derived.Lib.AtoiBound
import Derived.BigCall
import Derived.BigRegion
import Derived.Lib.SplitLaws
import Derived.Lib.IndexBytes
import Derived.Lib.Replace
import Derived.Lib.ItoaNum
import Derived.Lib.ItoaMem
import Derived.Lib.AtoiAllCases
import Derived.Laws.StructEq
namespace Go.Proofs.YtojhdfdhfajjjaaDoor.Pr
open Go.RowKit Go.Proofs.YtojhdfdhfajjjaaDoorW.PrintWords Go.Proofs.YtojhdfdhfajjjaaDoorW.PrintLast Go.Proofs.YtojhdfdhfajjjaaDoorW.PrintMore
attribute [local go_sem] max2_int min2_int max_two min_two max_three min_three max_four min_four   -- for this text's walks alone
set_option linter.unusedVariables false
set_option linter.unusedSimpArgs false
def errW : Option Int → Value
 | none => .nilIface
 | some c => .iface 0 (.int .i64 c)
theorem errW_none : errW none = .nilIface := rfl
theorem errW_some (c : Int) : errW (some c) = .iface 0 (.int .i64 c) := rfl
theorem info3 : (Tryd.prog.info? 3).map (fun i => (i.zero, i.size, i.bytes)) = some (some (.int .i64 0), 1, 8) := by kernel_rfl
theorem info9 : (Tryd.prog.info? 9).map (fun i => (i.zero, i.size, i.bytes)) = some (some (.string ⟨#[]⟩), 1, 16) := by kernel_rfl
theorem info42 : (Tryd.prog.info? 42).map (fun i => (i.zero, i.size, i.bytes)) = some (some (.agg #[(.int .i64 0), (.int .i64 0), (.int .i64 0)]), 3, 24) := by kernel_rfl
theorem info53 : (Tryd.prog.info? 53).map (fun i => (i.zero, i.size, i.bytes)) = some (some (.agg #[(.int .u8 0), (.int .i64 0)]), 2, 16) := by kernel_rfl
-- the values' own types
structure S42 where
 f0 : Int
 f1 : Int
 f2 : Int
def z42 : S42 := ⟨(0 : Int), (0 : Int), (0 : Int)⟩
def k42 : Kd S42 := Kd.iso (Kd.pair (Kd.int .i64) (Kd.pair (Kd.int .i64) (Kd.int .i64))) (fun x : S42 => (x.f0, x.f1, x.f2))
theorem k42_open {w : World} {x : S42} {cs : List Value} (h : k42.K w x cs) : cs = [.int .i64 x.f0, .int .i64 x.f1, .int .i64 x.f2] := by
 obtain ⟨_, _, rfl, rfl, ⟨_, _, rfl, rfl, rfl⟩⟩ := h
 exact rfl
theorem k42_openM {w : World} {base : Nat} {ok : Nat → Prop} {x : S42} {cs : List Value} (h : k42.M w base ok x cs) : cs = [.int .i64 x.f0, .int .i64 x.f1, .int .i64 x.f2] := by
 obtain ⟨_, _, rfl, rfl, ⟨_, _, rfl, rfl, rfl⟩⟩ := h
 exact rfl
theorem k42_mkM (w : World) (base : Nat) (ok : Nat → Prop) (x : S42)  : k42.M w base ok x [.int .i64 x.f0, .int .i64 x.f1, .int .i64 x.f2] := ⟨[.int .i64 x.f0], [.int .i64 x.f1, .int .i64 x.f2], rfl, rfl, ⟨[.int .i64 x.f1], [.int .i64 x.f2], rfl, rfl, rfl⟩⟩
def rd_T42 (xs : List S42) (i : Int) : S42 := xs.getD i.toNat z42
theorem at_T42 {w : World} {A : Option Addr} {n : Nat} {xs : List S42} (h : Kd.C k42 w A n xs) (i : Int) (h0 : 0 ≤ i) (h1 : i < n) : ∃ ad , A = some ad ∧ w.cell? (ad.add (i.toNat * 3)) = some (.int .i64 (rd_T42 xs i).f0) ∧ w.cell? ⟨(ad.add (i.toNat * 3)).block, (ad.add (i.toNat * 3)).off + 1, none⟩ = some (.int .i64 (rd_T42 xs i).f1) ∧ w.cell? ⟨(ad.add (i.toNat * 3)).block, (ad.add (i.toNat * 3)).off + 2, none⟩ = some (.int .i64 (rd_T42 xs i).f2) := by
 obtain ⟨ad, c, e, _, hK, hc0⟩ := Kd.C_get h z42 i h0 h1
 have hc : ∀ j u, c[j]? = some u → w.cell? (ad.add (i.toNat * 3 + j)) = some u := hc0
 obtain rfl := k42_open hK
 exact ⟨ad, e, hc 0 _ rfl, by rw [← add_field _ _ 1 (by omega)]; exact hc 1 _ rfl, by rw [← add_field _ _ 2 (by omega)]; exact hc 2 _ rfl⟩
structure S53 where
 f0 : Int
 f1 : Int
def z53 : S53 := ⟨(0 : Int), (0 : Int)⟩
def k53 : Kd S53 := Kd.iso (Kd.pair (Kd.int .u8) (Kd.int .i64)) (fun x : S53 => (x.f0, x.f1))
theorem k53_open {w : World} {x : S53} {cs : List Value} (h : k53.K w x cs) : cs = [.int .u8 x.f0, .int .i64 x.f1] := by
 obtain ⟨_, _, rfl, rfl, rfl⟩ := h
 exact rfl
theorem k53_mkM (w : World) (base : Nat) (ok : Nat → Prop) (x : S53)  : k53.M w base ok x [.int .u8 x.f0, .int .i64 x.f1] := ⟨[.int .u8 x.f0], [.int .i64 x.f1], rfl, rfl, rfl⟩
def rd_T53 (xs : List S53) (i : Int) : S53 := xs.getD i.toNat z53
theorem at_T53 {w : World} {A : Option Addr} {n : Nat} {xs : List S53} (h : Kd.C k53 w A n xs) (i : Int) (h0 : 0 ≤ i) (h1 : i < n) : ∃ ad , A = some ad ∧ w.cell? (ad.add (i.toNat * 2)) = some (.int .u8 (rd_T53 xs i).f0) ∧ w.cell? ⟨(ad.add (i.toNat * 2)).block, (ad.add (i.toNat * 2)).off + 1, none⟩ = some (.int .i64 (rd_T53 xs i).f1) := by
 obtain ⟨ad, c, e, _, hK, hc0⟩ := Kd.C_get h z53 i h0 h1
 have hc : ∀ j u, c[j]? = some u → w.cell? (ad.add (i.toNat * 2 + j)) = some u := hc0
 obtain rfl := k53_open hK
 exact ⟨ad, e, hc 0 _ rfl, by rw [← add_field _ _ 1 (by omega)]; exact hc 1 _ rfl⟩
def spec_l7Without.l0 : Nat → Int → List Int → List Int → Int → Int → Option (List Int)
 | 0, _, _, _, _, _ => none
 | k + 1, x1, x5, x9, x10, x11 => if x11 < x10 then (if 0 ≤ x11 then (if x11 < (x9.length : Int) then (if (rd x9 x11) = x1 then (spec_l7Without.l0 k x1 x5 x9 x10 (wrap64 (x11 + 1))) else (if x5.length < 17592186044416 then (spec_l7Without.l0 k x1 (x5 ++ [rd x9 x11]) x9 x10 (wrap64 (x11 + 1))) else (none))) else (none)) else (none)) else (some x5)
def spec_l7Without.f (k : Nat) (l0 : List Int) (a1 : Int) : Option (List Int) := spec_l7Without.l0 k a1 (([] : List Int)) l0 (l0.length : Int) 0
set_option maxHeartbeats 8000000 in
set_option maxRecDepth 100000 in
theorem spec_l7Without.calls (k : Nat) (A0 : Option Addr) (c0 : Nat) (l0 : List Int) (a1 : Int) (r : List Int) (w : World) (hr0 : Kd.C (Kd.int .i64) w A0 l0.length l0) (hc0 : l0.length ≤ c0) (h : spec_l7Without.f k l0 a1 = some r) :
  Calls Tryd.prog 24 #[.slice A0 l0.length c0, .int .i64 a1] w fun e w' => ∃ v0_ : Value, e = .returned (v0_) ∧ Kd.R (Kd.int .i64) 3 w' w.heap.size (fun _ => True) v0_ r ∧ Below w.heap.size w w' := by
 have HR0 := Az.mk hr0
 have HC0 := Az.mk hc0
 clear hr0 hc0
 have HB := Az.mk (Below.refl w.heap.size w)
 have H : (spec_l7Without.l0 k a1 (([] : List Int)) l0 (l0.length : Int) 0) = some r := h
 clear h
 obtain ⟨y149, hy149⟩ : ∃ y_ : List Int, y_ = (([] : List Int)) := ⟨_, rfl⟩
 replace H : (spec_l7Without.l0 k a1 y149 l0 (l0.length : Int) 0) = some r := by first | (rw [hy149]; with_reducible exact H) | (have H2_ := (Option.bind_some _ _).symm.trans H; rw [hy149]; with_reducible exact H2_) | (have H2_ := (Option.bind_some _ _).symm.trans H; with_reducible exact H2_) | with_reducible exact H | (rw [hy149]; exact H) | exact H
 have Ny149 := Az.mk hy149
 clear hy149
 have H' := Az.mk H
 clear H
 go_enter Tryd.func24, Tryd.ntmps24
 go_wp2_with (first | ((with_reducible refine gate_dst (N := 8) rfl ?_); refine Kd.R_lit (Kd.int .i64) _ 3 ?hg (N := 8) ?hd (xs := ([] : List Int)) (inner := []) (ok := fun _ => True) (okp := fun _ => True) ?hr ?hp (fun _ hk => hk) trivial (Below.refl _ _) (Nat.le_refl _) (by simp) ?_; (case hd => rfl); (case hg => rfl); (case hr => first | (go_simp; done) | (go_simp; rfl)); (case hp => exact (Reps.none _ _)); intro v150 w3 ho4 hb hg_ hnew_; clear hg_ hnew_; (first | rw [← Ny149.out] at ho4 | (simp only [Int.reduceToNat] at ho4; rw [← Ny149.out] at ho4)); have n0_ := Az.mk (Kd.R_lower ho4 (bZ (by repeat first|exact HB.out|apply bA|apply bN|apply bD))); have n1_ := Az.mk (bS (by repeat first|exact HB.out|apply bA|apply bN|apply bD) hb); clear HB; have HO151 := n0_; have HB := n1_; clear n0_ n1_; clear hb ho4))
 go_loopg [5, 11] k (fun kq v5 v11 w' => ∃ (x5_1 : List Int) (x11_1 : Int), v11 = .int .i64 x11_1 ∧ Az (spec_l7Without.l0 kq a1 x5_1 l0 (l0.length : Int) x11_1 = some r) ∧ Az (kq ≤ k) ∧ Az (Kd.R (Kd.int .i64) 3 w' w.heap.size (fun _ => True) v5 x5_1) ∧ Az (Below w.heap.size w w'))
 case atStart => exact ⟨(y149), (0), (by first | rfl | (simp; done) | (simp [*]; done)), H', ⟨Nat.le_refl _⟩, ⟨by (with_reducible repeat first|apply Kd.Ra|apply Kd.Rn|apply Kd.Rw); exact HO151.out⟩, ⟨by repeat (first | (with_reducible first|exact HB.out|apply bA|apply bN|apply bD) | exact HB.out)⟩⟩
 case round =>
  clear H'
  try clear c2
  try clear p2
  obtain ⟨x5_1, x11_1, rfl, HA, HK1, HO_5, HB⟩ := hrel
  cases gk with
  | zero => exact absurd HA.out (by simp [spec_l7Without.l0])
  | succ k1 =>
   have H := HA.out
   clear HA
   simp only [spec_l7Without.l0] at H
   by_cases c5 : x11_1 < (l0.length : Int)
   ·rw [if_pos c5] at H
    have c5b0 : decide (x11_1 < (l0.length : Int)) = true := decide_eq_true c5
    clear c5
    by_cases c6 : 0 ≤ x11_1
    ·rw [if_pos c6] at H
     have c6b0 : decide (0 ≤ x11_1) = true := decide_eq_true c6
     clear c6
     by_cases c7 : x11_1 < (l0.length : Int)
     ·rw [if_pos c7] at H
      have c7b0 : decide (x11_1 < (l0.length : Int)) = true := decide_eq_true c7
      clear c7
      by_cases c8 : (rd l0 x11_1) = a1
      ·rw [if_pos c8] at H
       have c8b0 : ((rd l0 x11_1) == a1) = true := beq_iff_eq.mpr c8
       have c8b1 : ((rd l0 x11_1) != a1) = false := bne_eq_false_iff_eq.mpr c8
       clear c8
       have H' := Az.mk H
       clear H
       have p152 : 0 ≤ (x11_1 : Int) := of_decide_eq_true (by first|(with_reducible assumption)|assumption)
       have q152 : x11_1 < (l0.length : Int) := of_decide_eq_true (by first|(with_reducible assumption)|assumption)
       obtain ⟨ad152, e152, hx152_0⟩ := Kd.at_int HR0.out x11_1 p152 q152
       cases e152
       replace hx152_0 := (HB.out.cell (World.block_lt_of_cell? w _ hx152_0)).trans hx152_0
       replace p152 := eq_true p152
       replace q152 := eq_true q152
       go_wp2
       go_roundg k1
       case measure => have := HK1.out; omega
       case rel => exact ⟨(x5_1), (wrap64 (x11_1 + 1)), (by first | rfl | (simp; done) | (simp [*]; done)), H', ⟨by have := HK1.out; omega⟩, ⟨by (with_reducible repeat first|apply Kd.Ra|apply Kd.Rn|apply Kd.Rw); exact HO_5.out⟩, ⟨by repeat (first | (with_reducible first|exact HB.out|apply bA|apply bN|apply bD) | exact HB.out)⟩⟩
      ·rw [if_neg c8] at H
       have c8b0 : ((rd l0 x11_1) == a1) = false := beq_eq_false_iff_ne.mpr c8
       have c8b1 : ((rd l0 x11_1) != a1) = true := bne_iff_ne.mpr c8
       by_cases c9 : x5_1.length < 17592186044416
       ·rw [if_pos c9] at H
        have LMc9 := Az.mk c9
        clear c9
        obtain ⟨y153, hy153⟩ : ∃ y_ : List Int, y_ = (x5_1 ++ [rd l0 x11_1]) := ⟨_, rfl⟩
        replace H : (spec_l7Without.l0 k1 a1 y153 l0 (l0.length : Int) (wrap64 (x11_1 + 1))) = some r := by first | (rw [hy153]; with_reducible exact H) | (have H2_ := (Option.bind_some _ _).symm.trans H; rw [hy153]; with_reducible exact H2_) | (have H2_ := (Option.bind_some _ _).symm.trans H; with_reducible exact H2_) | with_reducible exact H | (rw [hy153]; exact H) | exact H
        have Ny153 := Az.mk hy153
        clear hy153
        have H' := Az.mk H
        clear H
        have p152 : 0 ≤ (x11_1 : Int) := of_decide_eq_true (by first|(with_reducible assumption)|assumption)
        have q152 : x11_1 < (l0.length : Int) := of_decide_eq_true (by first|(with_reducible assumption)|assumption)
        obtain ⟨ad152, e152, hx152_0⟩ := Kd.at_int HR0.out x11_1 p152 q152
        cases e152
        replace hx152_0 := (HB.out.cell (World.block_lt_of_cell? w _ hx152_0)).trans hx152_0
        replace p152 := eq_true p152
        replace q152 := eq_true q152
        go_wp2_with (first | ((with_reducible refine gate_builtin (b := .append) (xs := #[.tmp 18, .tmp 20]) rfl ?_); at_builtin; refine Kd.R_append (Kd.int .i64) (w0 := w) w.heap.size rfl (.tmp 18) (.tmp 20) 23 3 (.int .i64 0) 8 rfl Tryd.underlying23 info3 rfl (by decide) (by omega) u5 x5_1 (rd l0 x11_1) [.int .i64 (rd l0 x11_1)] (fun _ => True) (fun _ => False) rfl rfl ?aP (fun _ hk => hk.elim) ?aF ?aO ?aB ?aS ?aL ?_; (case aP => exact rfl); (case aB => exact (by repeat first|exact HB.out|apply bA|apply bN|apply bD)); (case aF => exact (fun _ _ => trivial)); (case aO => exact (by (with_reducible repeat first|apply Kd.Ra|apply Kd.Rn|apply Kd.Rw); exact HO_5.out)); (case aS => exact (bZ (by repeat first|exact HB.out|apply bA|apply bN|apply bD))); (case aL => have := LMc9.out; omega); intro v154 w10 ho hb hg hat; rw [← Ny153.out] at ho; have n0_ := Az.mk (hb); have n1_ := Az.mk (ho); clear HB; clear HO_5; have HB := n0_; have HO155 := n1_; clear n0_ n1_; clear ho hb hg hat))
        go_roundg k1
        case measure => have := HK1.out; omega
        case rel => exact ⟨(y153), (wrap64 (x11_1 + 1)), (by first | rfl | (simp; done) | (simp [*]; done)), H', ⟨by have := HK1.out; omega⟩, ⟨by (with_reducible repeat first|apply Kd.Ra|apply Kd.Rn|apply Kd.Rw); exact HO155.out⟩, ⟨by repeat (first | (with_reducible first|exact HB.out|apply bA|apply bN|apply bD) | exact HB.out)⟩⟩
       ·rw [if_neg c9] at H
        exact absurd H (by simp)
     ·rw [if_neg c7] at H
      exact absurd H (by simp)
    ·rw [if_neg c6] at H
     exact absurd H (by simp)
   ·rw [if_neg c5] at H
    have c5b0 : decide (x11_1 < (l0.length : Int)) = false := decide_eq_false c5
    clear c5
    obtain rfl := Option.some.inj H
    go_wp2
    go_ret
    exact ⟨_, by first | rfl | (simp [errW_none, errW_some] <;> rfl) | (simp [*, errW_none, errW_some] <;> rfl), by (with_reducible repeat first|apply Kd.Ra|apply Kd.Rn|apply Kd.Rw); exact HO_5.out, by repeat (first | (with_reducible first|exact HB.out|apply bA|apply bN|apply bD) | exact HB.out)⟩
def spec_l13Cut.l0 : Nat → ByteArray → Int → List ByteArray → Int → Int → Option (List ByteArray)
 | 0, _, _, _, _, _ => none
 | k + 1, x0, x1, x5, x6, x7 => if x7 ≤ (x0.size : Int) then (if x7 = (x0.size : Int) then (if 0 ≤ x6 then (if x6 ≤ x7 then (if x5.length < 8796093022208 then (spec_l13Cut.l0 k x0 x1 (x5 ++ [x0.extract (x6 : Int).toNat (x7 : Int).toNat]) (wrap64 (x7 + 1)) (wrap64 (x7 + 1))) else (none)) else (none)) else (none)) else (if 0 ≤ x7 then (if x7 < (x0.size : Int) then (if (bt x0 x7) = x1 then (if 0 ≤ x6 then (if x6 ≤ x7 then (if x5.length < 8796093022208 then (spec_l13Cut.l0 k x0 x1 (x5 ++ [x0.extract (x6 : Int).toNat (x7 : Int).toNat]) (wrap64 (x7 + 1)) (wrap64 (x7 + 1))) else (none)) else (none)) else (none)) else (spec_l13Cut.l0 k x0 x1 x5 x6 (wrap64 (x7 + 1)))) else (none)) else (none))) else (some x5)
def spec_l13Cut.f (k : Nat) (a0 : ByteArray) (a1 : Int) : Option (List ByteArray) := spec_l13Cut.l0 k a0 a1 (([] : List ByteArray)) 0 0
set_option maxHeartbeats 8000000 in
set_option maxRecDepth 100000 in
theorem spec_l13Cut.calls (k : Nat) (a0 : ByteArray) (a1 : Int) (r : List ByteArray) (w : World) (h : spec_l13Cut.f k a0 a1 = some r) :
  Calls Tryd.prog 28 #[.string a0, .int .u8 a1] w fun e w' => ∃ v0_ : Value, e = .returned (v0_) ∧ Kd.R Kd.string 9 w' w.heap.size (fun _ => True) v0_ r ∧ Below w.heap.size w w' := by
 have HB := Az.mk (Below.refl w.heap.size w)
 have H : (spec_l13Cut.l0 k a0 a1 (([] : List ByteArray)) 0 0) = some r := h
 clear h
 obtain ⟨y156, hy156⟩ : ∃ y_ : List ByteArray, y_ = (([] : List ByteArray)) := ⟨_, rfl⟩
 replace H : (spec_l13Cut.l0 k a0 a1 y156 0 0) = some r := by first | (rw [hy156]; with_reducible exact H) | (have H2_ := (Option.bind_some _ _).symm.trans H; rw [hy156]; with_reducible exact H2_) | (have H2_ := (Option.bind_some _ _).symm.trans H; with_reducible exact H2_) | with_reducible exact H | (rw [hy156]; exact H) | exact H
 have Ny156 := Az.mk hy156
 clear hy156
 have H' := Az.mk H
 clear H
 go_enter Tryd.func28, Tryd.ntmps28
 go_wp2_with (first | ((with_reducible refine gate_dst (N := 8) rfl ?_); refine Kd.R_lit Kd.string _ 9 ?hg (N := 8) ?hd (xs := ([] : List ByteArray)) (inner := []) (ok := fun _ => True) (okp := fun _ => True) ?hr ?hp (fun _ hk => hk) trivial (Below.refl _ _) (Nat.le_refl _) (by simp) ?_; (case hd => rfl); (case hg => rfl); (case hr => first | (go_simp; done) | (go_simp; rfl)); (case hp => exact (Reps.none _ _)); intro v157 w3 ho4 hb hg_ hnew_; clear hg_ hnew_; (first | rw [← Ny156.out] at ho4 | (simp only [Int.reduceToNat] at ho4; rw [← Ny156.out] at ho4)); have n0_ := Az.mk (Kd.R_lower ho4 (bZ (by repeat first|exact HB.out|apply bA|apply bN|apply bD))); have n1_ := Az.mk (bS (by repeat first|exact HB.out|apply bA|apply bN|apply bD) hb); clear HB; have HO158 := n0_; have HB := n1_; clear n0_ n1_; clear hb ho4))
 go_loopg [5, 6, 7] k (fun kq v5 v6 v7 w' => ∃ (x5_1 : List ByteArray) (x6_1 : Int) (x7_1 : Int), v6 = .int .i64 x6_1 ∧ v7 = .int .i64 x7_1 ∧ Az (spec_l13Cut.l0 kq a0 a1 x5_1 x6_1 x7_1 = some r) ∧ Az (kq ≤ k) ∧ Az (Kd.R Kd.string 9 w' w.heap.size (fun _ => True) v5 x5_1) ∧ Az (Below w.heap.size w w'))
 case atStart => exact ⟨(y156), (0), (0), (by first | rfl | (simp; done) | (simp [*]; done)), (by first | rfl | (simp; done) | (simp [*]; done)), H', ⟨Nat.le_refl _⟩, ⟨by (with_reducible repeat first|apply Kd.Ra|apply Kd.Rn|apply Kd.Rw); exact HO158.out⟩, ⟨by repeat (first | (with_reducible first|exact HB.out|apply bA|apply bN|apply bD) | exact HB.out)⟩⟩
 case round =>
  clear H'
  try clear c2
  try clear p2
  obtain ⟨x5_1, x6_1, x7_1, rfl, rfl, HA, HK1, HO_5, HB⟩ := hrel
  cases gk with
  | zero => exact absurd HA.out (by simp [spec_l13Cut.l0])
  | succ k1 =>
   have H := HA.out
   clear HA
   simp only [spec_l13Cut.l0] at H
   by_cases c5 : x7_1 ≤ (a0.size : Int)
   ·rw [if_pos c5] at H
    have c5b0 : decide (x7_1 ≤ (a0.size : Int)) = true := decide_eq_true c5
    clear c5
    by_cases c6 : x7_1 = (a0.size : Int)
    ·rw [if_pos c6] at H
     have c6b0 : (x7_1 == (a0.size : Int)) = true := beq_iff_eq.mpr c6
     have c6b1 : (x7_1 != (a0.size : Int)) = false := bne_eq_false_iff_eq.mpr c6
     clear c6
     by_cases c7 : 0 ≤ x6_1
     ·rw [if_pos c7] at H
      have c7b0 := eq_true c7
      have c7b1 : decide (0 ≤ x6_1) = true := decide_eq_true c7
      clear c7
      by_cases c8 : x6_1 ≤ x7_1
      ·rw [if_pos c8] at H
       have c8b0 := eq_true c8
       have c8b1 : decide (x6_1 ≤ x7_1) = true := decide_eq_true c8
       clear c8
       have c9b0 := eq_true (of_decide_eq_true (by first|(with_reducible assumption)|assumption) : x7_1 ≤ (a0.size : Int))
       by_cases c10 : x5_1.length < 8796093022208
       ·rw [if_pos c10] at H
        have LMc10 := Az.mk c10
        clear c10
        obtain ⟨y159, hy159⟩ : ∃ y_ : List ByteArray, y_ = (x5_1 ++ [a0.extract (x6_1 : Int).toNat (x7_1 : Int).toNat]) := ⟨_, rfl⟩
        replace H : (spec_l13Cut.l0 k1 a0 a1 y159 (wrap64 (x7_1 + 1)) (wrap64 (x7_1 + 1))) = some r := by first | (rw [hy159]; with_reducible exact H) | (have H2_ := (Option.bind_some _ _).symm.trans H; rw [hy159]; with_reducible exact H2_) | (have H2_ := (Option.bind_some _ _).symm.trans H; with_reducible exact H2_) | with_reducible exact H | (rw [hy159]; exact H) | exact H
        have Ny159 := Az.mk hy159
        clear hy159
        have H' := Az.mk H
        clear H
        go_wp2_with (first | ((with_reducible refine gate_builtin (b := .append) (xs := #[.tmp 26, .tmp 31]) rfl ?_); at_builtin; refine Kd.R_append Kd.string (w0 := w) w.heap.size rfl (.tmp 26) (.tmp 31) 38 9 (.string ⟨#[]⟩) 16 rfl Tryd.underlying38 info9 rfl (by decide) (by omega) u5 x5_1 (a0.extract (x6_1 : Int).toNat (x7_1 : Int).toNat) [.string (a0.extract (x6_1 : Int).toNat (x7_1 : Int).toNat)] (fun _ => True) (fun _ => False) rfl rfl ?aP (fun _ hk => hk.elim) ?aF ?aO ?aB ?aS ?aL ?_; (case aP => exact rfl); (case aB => exact (by repeat first|exact HB.out|apply bA|apply bN|apply bD)); (case aF => exact (fun _ _ => trivial)); (case aO => exact (by (with_reducible repeat first|apply Kd.Ra|apply Kd.Rn|apply Kd.Rw); exact HO_5.out)); (case aS => exact (bZ (by repeat first|exact HB.out|apply bA|apply bN|apply bD))); (case aL => have := LMc10.out; omega); intro v160 w11 ho hb hg hat; rw [← Ny159.out] at ho; have n0_ := Az.mk (hb); have n1_ := Az.mk (ho); clear HB; clear HO_5; have HB := n0_; have HO161 := n1_; clear n0_ n1_; clear ho hb hg hat))
        go_roundg k1
        case measure => have := HK1.out; omega
        case rel => exact ⟨(y159), (wrap64 (x7_1 + 1)), (wrap64 (x7_1 + 1)), (by first | rfl | (simp; done) | (simp [*]; done)), (by first | rfl | (simp; done) | (simp [*]; done)), H', ⟨by have := HK1.out; omega⟩, ⟨by (with_reducible repeat first|apply Kd.Ra|apply Kd.Rn|apply Kd.Rw); exact HO161.out⟩, ⟨by repeat (first | (with_reducible first|exact HB.out|apply bA|apply bN|apply bD) | exact HB.out)⟩⟩
       ·rw [if_neg c10] at H
        exact absurd H (by simp)
      ·rw [if_neg c8] at H
       exact absurd H (by simp)
     ·rw [if_neg c7] at H
      exact absurd H (by simp)
    ·rw [if_neg c6] at H
     have c6b0 : (x7_1 == (a0.size : Int)) = false := beq_eq_false_iff_ne.mpr c6
     have c6b1 : (x7_1 != (a0.size : Int)) = true := bne_iff_ne.mpr c6
     by_cases c12 : 0 ≤ x7_1
     ·rw [if_pos c12] at H
      have c12b0 : decide (0 ≤ x7_1) = true := decide_eq_true c12
      clear c12
      by_cases c13 : x7_1 < (a0.size : Int)
      ·rw [if_pos c13] at H
       have c13b0 : decide (x7_1 < (a0.size : Int)) = true := decide_eq_true c13
       clear c13
       by_cases c15 : (bt a0 x7_1) = a1
       ·rw [if_pos c15] at H
        have c15b0 : ((bt a0 x7_1) == a1) = true := beq_iff_eq.mpr c15
        have c15b1 : ((bt a0 x7_1) != a1) = false := bne_eq_false_iff_eq.mpr c15
        clear c15
        by_cases c16 : 0 ≤ x6_1
        ·rw [if_pos c16] at H
         have c16b0 := eq_true c16
         have c16b1 : decide (0 ≤ x6_1) = true := decide_eq_true c16
         clear c16
         by_cases c17 : x6_1 ≤ x7_1
         ·rw [if_pos c17] at H
          have c17b0 := eq_true c17
          have c17b1 : decide (x6_1 ≤ x7_1) = true := decide_eq_true c17
          clear c17
          have c18b0 := eq_true (of_decide_eq_true (by first|(with_reducible assumption)|assumption) : x7_1 ≤ (a0.size : Int))
          by_cases c19 : x5_1.length < 8796093022208
          ·rw [if_pos c19] at H
           have LMc19 := Az.mk c19
           clear c19
           obtain ⟨y162, hy162⟩ : ∃ y_ : List ByteArray, y_ = (x5_1 ++ [a0.extract (x6_1 : Int).toNat (x7_1 : Int).toNat]) := ⟨_, rfl⟩
           replace H : (spec_l13Cut.l0 k1 a0 a1 y162 (wrap64 (x7_1 + 1)) (wrap64 (x7_1 + 1))) = some r := by first | (rw [hy162]; with_reducible exact H) | (have H2_ := (Option.bind_some _ _).symm.trans H; rw [hy162]; with_reducible exact H2_) | (have H2_ := (Option.bind_some _ _).symm.trans H; with_reducible exact H2_) | with_reducible exact H | (rw [hy162]; exact H) | exact H
           have Ny162 := Az.mk hy162
           clear hy162
           have H' := Az.mk H
           clear H
           have p14 : 0 ≤ (x7_1 : Int) := of_decide_eq_true (by first|(with_reducible assumption)|assumption)
           have q14 : x7_1 < (a0.size : Int) := of_decide_eq_true (by first|(with_reducible assumption)|assumption)
           have hx14 := bt_at a0 x7_1
           replace p14 := eq_true p14
           replace q14 := eq_true q14
           go_wp2_with (first | ((with_reducible refine gate_builtin (b := .append) (xs := #[.tmp 26, .tmp 31]) rfl ?_); at_builtin; refine Kd.R_append Kd.string (w0 := w) w.heap.size rfl (.tmp 26) (.tmp 31) 38 9 (.string ⟨#[]⟩) 16 rfl Tryd.underlying38 info9 rfl (by decide) (by omega) u5 x5_1 (a0.extract (x6_1 : Int).toNat (x7_1 : Int).toNat) [.string (a0.extract (x6_1 : Int).toNat (x7_1 : Int).toNat)] (fun _ => True) (fun _ => False) rfl rfl ?aP (fun _ hk => hk.elim) ?aF ?aO ?aB ?aS ?aL ?_; (case aP => exact rfl); (case aB => exact (by repeat first|exact HB.out|apply bA|apply bN|apply bD)); (case aF => exact (fun _ _ => trivial)); (case aO => exact (by (with_reducible repeat first|apply Kd.Ra|apply Kd.Rn|apply Kd.Rw); exact HO_5.out)); (case aS => exact (bZ (by repeat first|exact HB.out|apply bA|apply bN|apply bD))); (case aL => have := LMc19.out; omega); intro v163 w20 ho hb hg hat; rw [← Ny162.out] at ho; have n0_ := Az.mk (hb); have n1_ := Az.mk (ho); clear HB; clear HO_5; have HB := n0_; have HO164 := n1_; clear n0_ n1_; clear ho hb hg hat))
           go_roundg k1
           case measure => have := HK1.out; omega
           case rel => exact ⟨(y162), (wrap64 (x7_1 + 1)), (wrap64 (x7_1 + 1)), (by first | rfl | (simp; done) | (simp [*]; done)), (by first | rfl | (simp; done) | (simp [*]; done)), H', ⟨by have := HK1.out; omega⟩, ⟨by (with_reducible repeat first|apply Kd.Ra|apply Kd.Rn|apply Kd.Rw); exact HO164.out⟩, ⟨by repeat (first | (with_reducible first|exact HB.out|apply bA|apply bN|apply bD) | exact HB.out)⟩⟩
          ·rw [if_neg c19] at H
           exact absurd H (by simp)
         ·rw [if_neg c17] at H
          exact absurd H (by simp)
        ·rw [if_neg c16] at H
         exact absurd H (by simp)
       ·rw [if_neg c15] at H
        have c15b0 : ((bt a0 x7_1) == a1) = false := beq_eq_false_iff_ne.mpr c15
        have c15b1 : ((bt a0 x7_1) != a1) = true := bne_iff_ne.mpr c15
        have H' := Az.mk H
        clear H
        have p14 : 0 ≤ (x7_1 : Int) := of_decide_eq_true (by first|(with_reducible assumption)|assumption)
        have q14 : x7_1 < (a0.size : Int) := of_decide_eq_true (by first|(with_reducible assumption)|assumption)
        have hx14 := bt_at a0 x7_1
        replace p14 := eq_true p14
        replace q14 := eq_true q14
        go_wp2
        go_roundg k1
        case measure => have := HK1.out; omega
        case rel => exact ⟨(x5_1), (x6_1), (wrap64 (x7_1 + 1)), (by first | rfl | (simp; done) | (simp [*]; done)), (by first | rfl | (simp; done) | (simp [*]; done)), H', ⟨by have := HK1.out; omega⟩, ⟨by (with_reducible repeat first|apply Kd.Ra|apply Kd.Rn|apply Kd.Rw); exact HO_5.out⟩, ⟨by repeat (first | (with_reducible first|exact HB.out|apply bA|apply bN|apply bD) | exact HB.out)⟩⟩
      ·rw [if_neg c13] at H
       exact absurd H (by simp)
     ·rw [if_neg c12] at H
      exact absurd H (by simp)
   ·rw [if_neg c5] at H
    have c5b0 : decide (x7_1 ≤ (a0.size : Int)) = false := decide_eq_false c5
    clear c5
    obtain rfl := Option.some.inj H
    go_wp2
    go_ret
    exact ⟨_, by first | rfl | (simp [errW_none, errW_some] <;> rfl) | (simp [*, errW_none, errW_some] <;> rfl), by (with_reducible repeat first|apply Kd.Ra|apply Kd.Rn|apply Kd.Rw); exact HO_5.out, by repeat (first | (with_reducible first|exact HB.out|apply bA|apply bN|apply bD) | exact HB.out)⟩
mutual
def spec_l13Num.j0 : Nat → ByteArray → Bool → Option (Int × Bool)
 | 0, _, _ => none
 | k + 1, x0, x4 => if x4 = true then (if 1 ≤ (x0.size : Int) then (spec_l13Num.j1 k (x0.extract 1 x0.size) x4) else (none)) else (spec_l13Num.j1 k x0 x4)
def spec_l13Num.j1 : Nat → ByteArray → Bool → Option (Int × Bool)
 | 0, _, _ => none
 | k + 1, x0, x4 => if (x0.size : Int) = 0 then (spec_l13Num.j2 k x0 x4 true) else (if (x0.size : Int) > 17 then (spec_l13Num.j2 k x0 x4 true) else (if 0 < (x0.size : Int) then (if (bt x0 0) = 48 then (if (x0.size : Int) > 1 then (spec_l13Num.j2 k x0 x4 true) else (spec_l13Num.j2 k x0 x4 x4)) else (spec_l13Num.j2 k x0 x4 false)) else (none)))
def spec_l13Num.j2 : Nat → ByteArray → Bool → Bool → Option (Int × Bool)
 | 0, _, _, _ => none
 | k + 1, x0, x4, x38 => if x38 = true then (some (0, false)) else (spec_l13Num.l0 k x0 x4 0 0)
def spec_l13Num.l0 : Nat → ByteArray → Bool → Int → Int → Option (Int × Bool)
 | 0, _, _, _, _ => none
 | k + 1, x0, x4, x5, x6 => if x6 < (x0.size : Int) then (if 0 ≤ x6 then (if (bt x0 x6) < 48 then (some (0, false)) else (if (bt x0 x6) > 57 then (some (0, false)) else (spec_l13Num.l0 k x0 x4 (wrap64 ((wrap64 (x5 * 10)) + (((bt x0 x6) - 48) % 256))) (wrap64 (x6 + 1))))) else (none)) else (if x4 = true then (some (wrap64 (-x5), true)) else (some (x5, true)))
end
def spec_l13Num.f (k : Nat) (a0 : ByteArray) : Option (Int × Bool) := if (a0.size : Int) > 0 then (if 0 < (a0.size : Int) then (spec_l13Num.j0 k a0 ((bt a0 0) == 45)) else (none)) else (spec_l13Num.j0 k a0 false)
set_option maxHeartbeats 8000000 in
set_option maxRecDepth 100000 in
theorem spec_l13Num.calls (k : Nat) (a0 : ByteArray) (r1 : Int) (r2 : Bool) (w : World) (h : spec_l13Num.f k a0 = some (r1, r2)) :
  Calls Tryd.prog 29 #[.string a0] w fun e w' => e = .returned (.tuple #[.int .i64 r1, .bool r2]) ∧ Drawn0 w w' := by
 have H : (if (a0.size : Int) > 0 then (if 0 < (a0.size : Int) then (spec_l13Num.j0 k a0 ((bt a0 0) == 45)) else (none)) else (spec_l13Num.j0 k a0 false)) = some (r1, r2) := h
 clear h
 have HC2 := Az.mk H
 clear H
 go_enter Tryd.func29, Tryd.ntmps29
 go_upto_region 1 with (fail)
 go_cut [4] (fun v4 wc => ∃ (kq : Nat) (x4_1 : Bool), v4 = .bool x4_1 ∧ Az (spec_l13Num.j0 kq a0 x4_1 = some (r1, r2)) ∧ Az (kq ≤ k) ∧ Drawn0 w wc)
 case first =>
  have H := HC2.out
  clear HC2
  by_cases c3 : (a0.size : Int) > 0
  ·rw [if_pos c3] at H
   have c3b0 : decide (0 < (a0.size : Int)) = true := decide_eq_true c3
   have c3b1 : decide (0 < a0.size) = true := decide_eq_true (by omega)
   clear c3
   (first | rw [c3b0] | (simp only [i64_w, i32_w]; rw [c3b0]) | skip)
   by_cases c4 : 0 < (a0.size : Int)
   ·rw [if_pos c4] at H
    have c4b0 : decide (0 < (a0.size : Int)) = true := decide_eq_true c4
    have c4b1 : decide (0 < a0.size) = true := decide_eq_true (by omega)
    clear c4
    have H' := Az.mk H
    clear H
    have p5 : 0 ≤ (0 : Int) := (by omega)
    have q5 : 0 < a0.size := (by have : (0 : Int) < (a0.size : Int) := of_decide_eq_true (by first|(with_reducible assumption)|assumption); omega)
    have hx5 : ∀ h : 0 < a0.size, ((a0[0]'h).toNat : Int) = bt a0 0 := bt_at a0 0
    clear p5
    have qi5 : (0 < (a0.size : Int)) = True := eq_true (of_decide_eq_true (by first|(with_reducible assumption)|assumption))
    replace q5 := eq_true q5
    go_wp2
    go_meet
    case rel => exact ⟨_, (((bt a0 0) == 45)), (by first | rfl | (simp; done) | (simp [*]; done)), H', ⟨by first | omega | exact Nat.le_refl _⟩, by repeat (first | exact Drawn0.refl _ | apply Drawn0.step)⟩
   ·rw [if_neg c4] at H
    exact absurd H (by simp)
  ·rw [if_neg c3] at H
   have c3b0 : decide (0 < (a0.size : Int)) = false := decide_eq_false c3
   have c3b1 : decide (0 < a0.size) = false := decide_eq_false (by omega)
   clear c3
   (first | rw [c3b0] | (simp only [i64_w, i32_w]; rw [c3b0]) | skip)
   have H' := Az.mk H
   clear H
   go_wp2
   go_meet
   case rel => exact ⟨_, (false), (by first | rfl | (simp; done) | (simp [*]; done)), H', ⟨by first | omega | exact Nat.le_refl _⟩, by repeat (first | exact Drawn0.refl _ | apply Drawn0.step)⟩
 case rest =>
  clear HC2
  try clear c2
  try clear p2
  try clear c3
  try clear c3b0
  try clear c3b1
  try clear c4
  try clear c4b0
  try clear c4b1
  try clear p5
  try clear q5
  try clear hx5
  try clear qi5
  try clear p5
  try clear q5
  obtain ⟨kq, x4_1, rfl, HA, HJ1, ⟨mc1, rfl⟩⟩ := hcut
  cases kq with
  | zero => exact absurd HA.out (by simp [spec_l13Num.j0])
  | succ kj1 =>
   have H := HA.out
   clear HA
   simp only [spec_l13Num.j0] at H
   have HC6 := Az.mk H
   clear H
   go_upto_if 15 with (fail)
   go_cut [0] (fun v0 wc => ∃ (kq : Nat) (x0_5 : ByteArray), v0 = .string x0_5 ∧ Az (spec_l13Num.j1 kq x0_5 x4_1 = some (r1, r2)) ∧ Az (kq ≤ kj1) ∧ Drawn0 w wc)
   case first =>
    have H := HC6.out
    clear HC6
    by_cases c7 : x4_1 = true
    ·subst c7
     have H1 : (if 1 ≤ (a0.size : Int) then (spec_l13Num.j1 kj1 (a0.extract 1 a0.size) true) else (none)) = some (r1, r2) := by rw [if_pos rfl] at H; exact H
     clear H
     have H := H1
     clear H1
     by_cases c8 : 1 ≤ (a0.size : Int)
     ·rw [if_pos c8] at H
      have c8b0 := eq_true c8
      have c8b1 : decide (1 ≤ (a0.size : Int)) = true := decide_eq_true c8
      clear c8
      have H' := Az.mk H
      clear H
      go_wp2
      go_meet
      case rel => exact ⟨_, (a0.extract 1 a0.size), (by first | rfl | (simp; done) | (simp [*]; done)), H', ⟨by have := HJ1.out; first | omega | exact Nat.le_refl _⟩, by repeat (first | exact Drawn0.refl _ | apply Drawn0.step)⟩
     ·rw [if_neg c8] at H
      exact absurd H (by simp)
    ·replace c7 := Bool.eq_false_iff.mpr c7
     subst c7
     have H1 : (spec_l13Num.j1 kj1 a0 false) = some (r1, r2) := by rw [if_neg (show ¬ (false = true) by decide)] at H; exact H
     clear H
     have H := H1
     clear H1
     have H' := Az.mk H
     clear H
     go_wp2
     go_meet
     case rel => exact ⟨_, (a0), (by first | rfl | (simp; done) | (simp [*]; done)), H', ⟨by have := HJ1.out; first | omega | exact Nat.le_refl _⟩, by repeat (first | exact Drawn0.refl _ | apply Drawn0.step)⟩
   case rest =>
    clear HC6
    try clear c1
    try clear c2
    try clear p2
    try clear c3
    try clear c3b0
    try clear c3b1
    try clear c4
    try clear c4b0
    try clear c4b1
    try clear p5
    try clear q5
    try clear hx5
    try clear qi5
    try clear c7
    try clear c8
    try clear c8b0
    try clear c8b1
    try clear p2
    try clear p5
    try clear q5
    obtain ⟨kq, x0_5, rfl, HA, HJ5, ⟨mc5, rfl⟩⟩ := hcut
    cases kq with
    | zero => exact absurd HA.out (by simp [spec_l13Num.j1])
    | succ kj5 =>
     have H := HA.out
     clear HA
     simp only [spec_l13Num.j1] at H
     have HC9 := Az.mk H
     clear H
     go_upto_region 4 with (fail)
     go_cut [38] (fun v38 wc => ∃ (kq : Nat) (x38_8 : Bool), v38 = .bool x38_8 ∧ Az (spec_l13Num.j2 kq x0_5 x4_1 x38_8 = some (r1, r2)) ∧ Az (kq ≤ kj5) ∧ Drawn0 w wc)
     case first =>
      have H := HC9.out
      clear HC9
      by_cases c10 : (x0_5.size : Int) = 0
      ·rw [if_pos c10] at H
       have c10b0 : ((x0_5.size : Int) == 0) = true := beq_iff_eq.mpr c10
       have c10b1 : ((x0_5.size : Int) != 0) = false := bne_eq_false_iff_eq.mpr c10
       clear c10
       (first | rw [c10b0] | (simp only [i64_w, i32_w]; rw [c10b0]) | skip)
       have H' := Az.mk H
       clear H
       go_wp2
       go_meet
       case rel => exact ⟨_, (true), (by first | rfl | (simp; done) | (simp [*]; done)), H', ⟨by have := HJ1.out; have := HJ5.out; first | omega | exact Nat.le_refl _⟩, by repeat (first | exact Drawn0.refl _ | apply Drawn0.step)⟩
      ·rw [if_neg c10] at H
       have c10b0 : ((x0_5.size : Int) == 0) = false := beq_eq_false_iff_ne.mpr c10
       have c10b1 : ((x0_5.size : Int) != 0) = true := bne_iff_ne.mpr c10
       (first | rw [c10b0] | (simp only [i64_w, i32_w]; rw [c10b0]) | skip)
       by_cases c11 : (x0_5.size : Int) > 17
       ·rw [if_pos c11] at H
        have c11b0 : decide (17 < (x0_5.size : Int)) = true := decide_eq_true c11
        have c11b1 : decide (17 < x0_5.size) = true := decide_eq_true (by omega)
        clear c11
        have H' := Az.mk H
        clear H
        go_wp2
        go_meet
        case rel => exact ⟨_, (true), (by first | rfl | (simp; done) | (simp [*]; done)), H', ⟨by have := HJ1.out; have := HJ5.out; first | omega | exact Nat.le_refl _⟩, by repeat (first | exact Drawn0.refl _ | apply Drawn0.step)⟩
       ·rw [if_neg c11] at H
        have c11b0 : decide (17 < (x0_5.size : Int)) = false := decide_eq_false c11
        have c11b1 : decide (17 < x0_5.size) = false := decide_eq_false (by omega)
        clear c11
        by_cases c12 : 0 < (x0_5.size : Int)
        ·rw [if_pos c12] at H
         have c12b0 : decide (0 < (x0_5.size : Int)) = true := decide_eq_true c12
         have c12b1 : decide (0 < x0_5.size) = true := decide_eq_true (by omega)
         clear c12
         by_cases c14 : (bt x0_5 0) = 48
         ·rw [if_pos c14] at H
          have c14b0 : ((bt x0_5 0) == 48) = true := beq_iff_eq.mpr c14
          have c14b1 : ((bt x0_5 0) != 48) = false := bne_eq_false_iff_eq.mpr c14
          clear c14
          by_cases c15 : (x0_5.size : Int) > 1
          ·rw [if_pos c15] at H
           have c15b0 : decide (1 < (x0_5.size : Int)) = true := decide_eq_true c15
           have c15b1 : decide (1 < x0_5.size) = true := decide_eq_true (by omega)
           clear c15
           have H' := Az.mk H
           clear H
           have p13 : 0 ≤ (0 : Int) := (by omega)
           have q13 : 0 < x0_5.size := (by have : (0 : Int) < (x0_5.size : Int) := of_decide_eq_true (by first|(with_reducible assumption)|assumption); omega)
           have hx13 : ∀ h : 0 < x0_5.size, ((x0_5[0]'h).toNat : Int) = bt x0_5 0 := bt_at x0_5 0
           clear p13
           have qi13 : (0 < (x0_5.size : Int)) = True := eq_true (of_decide_eq_true (by first|(with_reducible assumption)|assumption))
           replace q13 := eq_true q13
           go_wp2
           go_meet
           case rel => exact ⟨_, (true), (by first | rfl | (simp; done) | (simp [*]; done)), H', ⟨by have := HJ1.out; have := HJ5.out; first | omega | exact Nat.le_refl _⟩, by repeat (first | exact Drawn0.refl _ | apply Drawn0.step)⟩
          ·rw [if_neg c15] at H
           have c15b0 : decide (1 < (x0_5.size : Int)) = false := decide_eq_false c15
           have c15b1 : decide (1 < x0_5.size) = false := decide_eq_false (by omega)
           clear c15
           have H' := Az.mk H
           clear H
           have p13 : 0 ≤ (0 : Int) := (by omega)
           have q13 : 0 < x0_5.size := (by have : (0 : Int) < (x0_5.size : Int) := of_decide_eq_true (by first|(with_reducible assumption)|assumption); omega)
           have hx13 : ∀ h : 0 < x0_5.size, ((x0_5[0]'h).toNat : Int) = bt x0_5 0 := bt_at x0_5 0
           clear p13
           have qi13 : (0 < (x0_5.size : Int)) = True := eq_true (of_decide_eq_true (by first|(with_reducible assumption)|assumption))
           replace q13 := eq_true q13
           go_wp2
           go_meet
           case rel => exact ⟨_, (x4_1), (by first | rfl | (simp; done) | (simp [*]; done)), H', ⟨by have := HJ1.out; have := HJ5.out; first | omega | exact Nat.le_refl _⟩, by repeat (first | exact Drawn0.refl _ | apply Drawn0.step)⟩
         ·rw [if_neg c14] at H
          have c14b0 : ((bt x0_5 0) == 48) = false := beq_eq_false_iff_ne.mpr c14
          have c14b1 : ((bt x0_5 0) != 48) = true := bne_iff_ne.mpr c14
          have H' := Az.mk H
          clear H
          have p13 : 0 ≤ (0 : Int) := (by omega)
          have q13 : 0 < x0_5.size := (by have : (0 : Int) < (x0_5.size : Int) := of_decide_eq_true (by first|(with_reducible assumption)|assumption); omega)
          have hx13 : ∀ h : 0 < x0_5.size, ((x0_5[0]'h).toNat : Int) = bt x0_5 0 := bt_at x0_5 0
          clear p13
          have qi13 : (0 < (x0_5.size : Int)) = True := eq_true (of_decide_eq_true (by first|(with_reducible assumption)|assumption))
          replace q13 := eq_true q13
          go_wp2
          go_meet
          case rel => exact ⟨_, (false), (by first | rfl | (simp; done) | (simp [*]; done)), H', ⟨by have := HJ1.out; have := HJ5.out; first | omega | exact Nat.le_refl _⟩, by repeat (first | exact Drawn0.refl _ | apply Drawn0.step)⟩
        ·rw [if_neg c12] at H
         exact absurd H (by simp)
     case rest =>
      clear HC9
      try clear c1
      try clear p1
      try clear q1
      try clear hx1
      try clear qi1
      try clear c2
      try clear p2
      try clear c3
      try clear c3b0
      try clear c3b1
      try clear c4
      try clear c4b0
      try clear c4b1
      try clear c5
      try clear p5
      try clear q5
      try clear hx5
      try clear qi5
      try clear c7
      try clear c8
      try clear c8b0
      try clear c8b1
      try clear c10
      try clear c10b0
      try clear c10b1
      try clear c11
      try clear c11b0
      try clear c11b1
      try clear c12
      try clear c12b0
      try clear c12b1
      try clear p13
      try clear q13
      try clear hx13
      try clear qi13
      try clear c14
      try clear c14b0
      try clear c14b1
      try clear c15
      try clear c15b0
      try clear c15b1
      try clear p13
      try clear p2
      try clear p5
      try clear q13
      try clear q5
      obtain ⟨kq, x38_8, rfl, HA, HJ8, ⟨mc8, rfl⟩⟩ := hcut
      cases kq with
      | zero => exact absurd HA.out (by simp [spec_l13Num.j2])
      | succ kj8 =>
       have H := HA.out
       clear HA
       simp only [spec_l13Num.j2] at H
       by_cases c16 : x38_8 = true
       ·subst c16
        have H1 : (some (0, false)) = some (r1, r2) := by rw [if_pos rfl] at H; exact H
        clear H
        have H := H1
        clear H1
        simp only [Option.some.injEq, Prod.mk.injEq] at H
        obtain ⟨rfl, rfl⟩ := H
        go_wp2
        go_ret2
        exact ⟨by first | rfl | (simp; done) | (simp [*]; done), by repeat (first | exact Drawn0.refl _ | apply Drawn0.step)⟩
       ·replace c16 := Bool.eq_false_iff.mpr c16
        subst c16
        have H1 : (spec_l13Num.l0 kj8 x0_5 x4_1 0 0) = some (r1, r2) := by rw [if_neg (show ¬ (false = true) by decide)] at H; exact H
        clear H
        have H := H1
        clear H1
        have H' := Az.mk H
        clear H
        go_wp2
        go_loopg [5, 6] kj8 (fun kq v5 v6 w' => ∃ (x5_4 : Int) (x6_4 : Int), v5 = .int .i64 x5_4 ∧ v6 = .int .i64 x6_4 ∧ Az (spec_l13Num.l0 kq x0_5 x4_1 x5_4 x6_4 = some (r1, r2)) ∧ Az (kq ≤ kj8) ∧ Drawn0 w w')
        case atStart => exact ⟨(0), (0), (by first | rfl | (simp; done) | (simp [*]; done)), (by first | rfl | (simp; done) | (simp [*]; done)), H', ⟨Nat.le_refl _⟩, by repeat (first | exact Drawn0.refl _ | apply Drawn0.step)⟩
        case round =>
         clear H'
         try clear c1
         try clear p1
         try clear q1
         try clear hx1
         try clear qi1
         try clear c2
         try clear p2
         try clear c3
         try clear c3b0
         try clear c3b1
         try clear c4
         try clear c4b0
         try clear c4b1
         try clear c5
         try clear p5
         try clear q5
         try clear hx5
         try clear qi5
         try clear c7
         try clear c8
         try clear c8b0
         try clear c8b1
         try clear c10
         try clear c10b0
         try clear c10b1
         try clear c11
         try clear c11b0
         try clear c11b1
         try clear c12
         try clear c12b0
         try clear c12b1
         try clear p13
         try clear q13
         try clear hx13
         try clear qi13
         try clear c14
         try clear c14b0
         try clear c14b1
         try clear c15
         try clear c15b0
         try clear c15b1
         try clear c16
         try clear p1
         try clear p13
         try clear p2
         try clear p5
         try clear q1
         try clear q13
         try clear q5
         obtain ⟨x5_4, x6_4, rfl, rfl, HA, HK4, ⟨m4, rfl⟩⟩ := hrel
         cases gk with
         | zero => exact absurd HA.out (by simp [spec_l13Num.l0])
         | succ k4 =>
          have H := HA.out
          clear HA
          simp only [spec_l13Num.l0] at H
          by_cases c17 : x6_4 < (x0_5.size : Int)
          ·rw [if_pos c17] at H
           have c17b0 : decide (x6_4 < (x0_5.size : Int)) = true := decide_eq_true c17
           clear c17
           by_cases c18 : 0 ≤ x6_4
           ·rw [if_pos c18] at H
            have c18b0 : decide (0 ≤ x6_4) = true := decide_eq_true c18
            clear c18
            by_cases c20 : (bt x0_5 x6_4) < 48
            ·rw [if_pos c20] at H
             have c20b0 : decide ((bt x0_5 x6_4) < 48) = true := decide_eq_true c20
             clear c20
             simp only [Option.some.injEq, Prod.mk.injEq] at H
             obtain ⟨rfl, rfl⟩ := H
             have p19 : 0 ≤ (x6_4 : Int) := of_decide_eq_true (by first|(with_reducible assumption)|assumption)
             have q19 : x6_4 < (x0_5.size : Int) := of_decide_eq_true (by first|(with_reducible assumption)|assumption)
             have hx19 := bt_at x0_5 x6_4
             replace p19 := eq_true p19
             replace q19 := eq_true q19
             go_wp2
             go_ret2
             exact ⟨by first | rfl | (simp; done) | (simp [*]; done), by repeat (first | exact Drawn0.refl _ | apply Drawn0.step)⟩
            ·rw [if_neg c20] at H
             have c20b0 : decide ((bt x0_5 x6_4) < 48) = false := decide_eq_false c20
             clear c20
             by_cases c22 : (bt x0_5 x6_4) > 57
             ·rw [if_pos c22] at H
              have c22b0 : decide (57 < (bt x0_5 x6_4)) = true := decide_eq_true c22
              clear c22
              simp only [Option.some.injEq, Prod.mk.injEq] at H
              obtain ⟨rfl, rfl⟩ := H
              have p19 : 0 ≤ (x6_4 : Int) := of_decide_eq_true (by first|(with_reducible assumption)|assumption)
              have q19 : x6_4 < (x0_5.size : Int) := of_decide_eq_true (by first|(with_reducible assumption)|assumption)
              have hx19 := bt_at x0_5 x6_4
              replace p19 := eq_true p19
              replace q19 := eq_true q19
              have p21 : 0 ≤ (x6_4 : Int) := of_decide_eq_true (by first|(with_reducible assumption)|assumption)
              have q21 : x6_4 < (x0_5.size : Int) := of_decide_eq_true (by first|(with_reducible assumption)|assumption)
              have hx21 := bt_at x0_5 x6_4
              replace p21 := eq_true p21
              replace q21 := eq_true q21
              go_wp2
              go_ret2
              exact ⟨by first | rfl | (simp; done) | (simp [*]; done), by repeat (first | exact Drawn0.refl _ | apply Drawn0.step)⟩
             ·rw [if_neg c22] at H
              have c22b0 : decide (57 < (bt x0_5 x6_4)) = false := decide_eq_false c22
              clear c22
              have H' := Az.mk H
              clear H
              have p19 : 0 ≤ (x6_4 : Int) := of_decide_eq_true (by first|(with_reducible assumption)|assumption)
              have q19 : x6_4 < (x0_5.size : Int) := of_decide_eq_true (by first|(with_reducible assumption)|assumption)
              have hx19 := bt_at x0_5 x6_4
              replace p19 := eq_true p19
              replace q19 := eq_true q19
              have p21 : 0 ≤ (x6_4 : Int) := of_decide_eq_true (by first|(with_reducible assumption)|assumption)
              have q21 : x6_4 < (x0_5.size : Int) := of_decide_eq_true (by first|(with_reducible assumption)|assumption)
              have hx21 := bt_at x0_5 x6_4
              replace p21 := eq_true p21
              replace q21 := eq_true q21
              have p23 : 0 ≤ (x6_4 : Int) := of_decide_eq_true (by first|(with_reducible assumption)|assumption)
              have q23 : x6_4 < (x0_5.size : Int) := of_decide_eq_true (by first|(with_reducible assumption)|assumption)
              have hx23 := bt_at x0_5 x6_4
              replace p23 := eq_true p23
              replace q23 := eq_true q23
              go_wp2
              go_roundg k4
              case measure => have := HJ1.out; have := HJ5.out; have := HJ8.out; have := HK4.out; omega
              case rel => exact ⟨(wrap64 ((wrap64 (x5_4 * 10)) + (((bt x0_5 x6_4) - 48) % 256))), (wrap64 (x6_4 + 1)), (by first | rfl | (simp; done) | (simp [*]; done)), (by first | rfl | (simp; done) | (simp [*]; done)), H', ⟨by have := HJ1.out; have := HJ5.out; have := HJ8.out; have := HK4.out; omega⟩, by repeat (first | exact Drawn0.refl _ | apply Drawn0.step)⟩
           ·rw [if_neg c18] at H
            exact absurd H (by simp)
          ·rw [if_neg c17] at H
           have c17b0 : decide (x6_4 < (x0_5.size : Int)) = false := decide_eq_false c17
           clear c17
           by_cases c24 : x4_1 = true
           ·subst c24
            have H1 : (some (wrap64 (-x5_4), true)) = some (r1, r2) := by rw [if_pos rfl] at H; exact H
            clear H
            have H := H1
            clear H1
            simp only [Option.some.injEq, Prod.mk.injEq] at H
            obtain ⟨rfl, rfl⟩ := H
            go_wp2
            go_ret2
            exact ⟨by first | rfl | (simp; done) | (simp [*]; done), by repeat (first | exact Drawn0.refl _ | apply Drawn0.step)⟩
           ·replace c24 := Bool.eq_false_iff.mpr c24
            subst c24
            have H1 : (some (x5_4, true)) = some (r1, r2) := by rw [if_neg (show ¬ (false = true) by decide)] at H; exact H
            clear H
            have H := H1
            clear H1
            simp only [Option.some.injEq, Prod.mk.injEq] at H
            obtain ⟨rfl, rfl⟩ := H
            go_wp2
            go_ret2
            exact ⟨by first | rfl | (simp; done) | (simp [*]; done), by repeat (first | exact Drawn0.refl _ | apply Drawn0.step)⟩
end Go.Proofs.YtojhdfdhfajjjaaDoor.Pr
namespace Go.Proofs.YtojhdfdhfajjjaaDoor.Pr
open Go.RowKit Go.Proofs.YtojhdfdhfajjjaaDoorW.PrintWords Go.Proofs.YtojhdfdhfajjjaaDoorW.PrintLast Go.Proofs.YtojhdfdhfajjjaaDoorW.PrintMore
attribute [local go_sem] max2_int min2_int max_two min_two max_three min_three max_four min_four   -- for this text's walks alone
set_option linter.unusedVariables false
set_option linter.unusedSimpArgs false
def spec_l7In.l0 : Nat → Int → List Int → Int → Int → Option (Bool)
 | 0, _, _, _, _ => none
 | k + 1, x1, x7, x8, x9 => if x9 < x8 then (if 0 ≤ x9 then (if x9 < (x7.length : Int) then (if (rd x7 x9) = x1 then (some true) else (spec_l7In.l0 k x1 x7 x8 (wrap64 (x9 + 1)))) else (none)) else (none)) else (some false)
def spec_l7In.f (k : Nat) (l0 : List Int) (a1 : Int) : Option (Bool) := spec_l7In.l0 k a1 l0 (l0.length : Int) 0
set_option maxHeartbeats 8000000 in
set_option maxRecDepth 100000 in
theorem spec_l7In.calls (k : Nat) (A0 : Option Addr) (c0 : Nat) (l0 : List Int) (a1 : Int) (r : Bool) (w : World) (hr0 : Kd.C (Kd.int .i64) w A0 l0.length l0) (hc0 : l0.length ≤ c0) (h : spec_l7In.f k l0 a1 = some r) :
  Calls Tryd.prog 30 #[.slice A0 l0.length c0, .int .i64 a1] w fun e w' => e = .returned (.bool r) ∧ Drawn0 w w' := by
 have HR0 := Az.mk hr0
 have HC0 := Az.mk hc0
 clear hr0 hc0
 have H : (spec_l7In.l0 k a1 l0 (l0.length : Int) 0) = some r := h
 clear h
 have H' := Az.mk H
 clear H
 go_enter Tryd.func30, Tryd.ntmps30
 go_wp2
 go_loopg [9] k (fun kq v9 w' => ∃ (x9_1 : Int), v9 = .int .i64 x9_1 ∧ Az (spec_l7In.l0 kq a1 l0 (l0.length : Int) x9_1 = some r) ∧ Az (kq ≤ k) ∧ Drawn0 w w')
 case atStart => exact ⟨(0), (by first | rfl | (simp; done) | (simp [*]; done)), H', ⟨Nat.le_refl _⟩, by repeat (first | exact Drawn0.refl _ | apply Drawn0.step)⟩
 case round =>
  clear H'
  try clear p2
  obtain ⟨x9_1, rfl, HA, HK1, ⟨m1, rfl⟩⟩ := hrel
  cases gk with
  | zero => exact absurd HA.out (by simp [spec_l7In.l0])
  | succ k1 =>
   have H := HA.out
   clear HA
   simp only [spec_l7In.l0] at H
   by_cases c3 : x9_1 < (l0.length : Int)
   ·rw [if_pos c3] at H
    have c3b0 : decide (x9_1 < (l0.length : Int)) = true := decide_eq_true c3
    clear c3
    by_cases c4 : 0 ≤ x9_1
    ·rw [if_pos c4] at H
     have c4b0 : decide (0 ≤ x9_1) = true := decide_eq_true c4
     clear c4
     by_cases c5 : x9_1 < (l0.length : Int)
     ·rw [if_pos c5] at H
      have c5b0 : decide (x9_1 < (l0.length : Int)) = true := decide_eq_true c5
      clear c5
      by_cases c6 : (rd l0 x9_1) = a1
      ·rw [if_pos c6] at H
       have c6b0 : ((rd l0 x9_1) == a1) = true := beq_iff_eq.mpr c6
       have c6b1 : ((rd l0 x9_1) != a1) = false := bne_eq_false_iff_eq.mpr c6
       clear c6
       obtain rfl := Option.some.inj H
       have p165 : 0 ≤ (x9_1 : Int) := of_decide_eq_true (by first|(with_reducible assumption)|assumption)
       have q165 : x9_1 < (l0.length : Int) := of_decide_eq_true (by first|(with_reducible assumption)|assumption)
       obtain ⟨ad165, e165, hx165_0⟩ := Kd.at_int HR0.out x9_1 p165 q165
       cases e165
       replace p165 := eq_true p165
       replace q165 := eq_true q165
       go_wp2
       go_ret
       exact ⟨by first | rfl | (simp; done) | (simp [*]; done), by repeat (first | exact Drawn0.refl _ | apply Drawn0.step)⟩
      ·rw [if_neg c6] at H
       have c6b0 : ((rd l0 x9_1) == a1) = false := beq_eq_false_iff_ne.mpr c6
       have c6b1 : ((rd l0 x9_1) != a1) = true := bne_iff_ne.mpr c6
       have H' := Az.mk H
       clear H
       have p165 : 0 ≤ (x9_1 : Int) := of_decide_eq_true (by first|(with_reducible assumption)|assumption)
       have q165 : x9_1 < (l0.length : Int) := of_decide_eq_true (by first|(with_reducible assumption)|assumption)
       obtain ⟨ad165, e165, hx165_0⟩ := Kd.at_int HR0.out x9_1 p165 q165
       cases e165
       replace p165 := eq_true p165
       replace q165 := eq_true q165
       go_wp2
       go_roundg k1
       case measure => have := HK1.out; omega
       case rel => exact ⟨(wrap64 (x9_1 + 1)), (by first | rfl | (simp; done) | (simp [*]; done)), H', ⟨by have := HK1.out; omega⟩, by repeat (first | exact Drawn0.refl _ | apply Drawn0.step)⟩
     ·rw [if_neg c5] at H
      exact absurd H (by simp)
    ·rw [if_neg c4] at H
     exact absurd H (by simp)
   ·rw [if_neg c3] at H
    have c3b0 : decide (x9_1 < (l0.length : Int)) = false := decide_eq_false c3
    clear c3
    obtain rfl := Option.some.inj H
    go_wp2
    go_ret
    exact ⟨by first | rfl | (simp; done) | (simp [*]; done), by repeat (first | exact Drawn0.refl _ | apply Drawn0.step)⟩
mutual
def spec_l7Read.l0 : Nat → List (S53) → Int → List Int → List ByteArray → Int → Int → Option ((List (S53)) × Bool)
 | 0, _, _, _, _, _, _ => none
 | k + 1, x4, x5, x6, x18, x19, x20 => if x20 < x19 then (if 0 ≤ x20 then (if x20 < (x18.length : Int) then (if (rdOf ByteArray.empty x18 x20).toList = ([] : List UInt8) then (spec_l7Read.j1 k x4 x5 x6 (rdOf ByteArray.empty x18 x20) x18 x19 x20 true) else (spec_l7Read.j1 k x4 x5 x6 (rdOf ByteArray.empty x18 x20) x18 x19 x20 (decide ((x4.length : Int) ≥ 600)))) else (none)) else (none)) else (some (x4, true))
def spec_l7Read.j1 : Nat → List (S53) → Int → List Int → ByteArray → List ByteArray → Int → Int → Bool → Option ((List (S53)) × Bool)
 | 0, _, _, _, _, _, _, _, _ => none
 | k + 1, x4, x5, x6, x8, x18, x19, x20, x30 => if x30 = true then (some ((([] : List (S53))), false)) else (if 1 ≤ (x8.size : Int) then ((spec_l13Num.f k (x8.extract 1 x8.size)).bind fun bt179 => (if 0 < (x8.size : Int) then (if bt179.2 = true then (if (bt x8 0) = 43 then (spec_l7Read.j2 k x4 x5 x6 bt179.1 x18 x19 x20 (bt179.1 == (wrap64 (x5 + 1))) (bt x8 0) bt179.1) else (spec_l7Read.j2 k x4 x5 x6 bt179.1 x18 x19 x20 false (bt x8 0) bt179.1)) else (some ((([] : List (S53))), false))) else (none))) else (none))
def spec_l7Read.j2 : Nat → List (S53) → Int → List Int → Int → List ByteArray → Int → Int → Bool → Int → Int → Option ((List (S53)) × Bool)
 | 0, _, _, _, _, _, _, _, _, _, _ => none
 | k + 1, x4, x5, x6, x9, x18, x19, x20, x47, x182000, x182001 => if x47 = true then (if x6.length < 17592186044416 then (if x4.length < 8796093022208 then (spec_l7Read.l0 k (x4 ++ [(⟨x182000, x182001⟩ : S53)]) x9 (x6 ++ [x9]) x18 x19 (wrap64 (x20 + 1))) else (none)) else (none)) else (if x182000 = 46 then ((spec_l7In.f k x6 x9).bind fun t188 => (spec_l7Read.j3 k x4 x5 x6 x9 x18 x19 x20 t188 x182000 x182001)) else (spec_l7Read.j3 k x4 x5 x6 x9 x18 x19 x20 false x182000 x182001))
def spec_l7Read.j3 : Nat → List (S53) → Int → List Int → Int → List ByteArray → Int → Int → Bool → Int → Int → Option ((List (S53)) × Bool)
 | 0, _, _, _, _, _, _, _, _, _, _ => none
 | k + 1, x4, x5, x6, x9, x18, x19, x20, x62, x182000, x182001 => if x62 = true then (if x4.length < 8796093022208 then (spec_l7Read.l0 k (x4 ++ [(⟨x182000, x182001⟩ : S53)]) x5 x6 x18 x19 (wrap64 (x20 + 1))) else (none)) else (if x182000 = 45 then ((spec_l7In.f k x6 x9).bind fun t192 => (if t192 = true then ((spec_l7Without.f k x6 x9).bind fun t193 => (if x4.length < 8796093022208 then (spec_l7Read.l0 k (x4 ++ [(⟨x182000, x182001⟩ : S53)]) x5 t193 x18 x19 (wrap64 (x20 + 1))) else (none))) else (some ((([] : List (S53))), false)))) else (some ((([] : List (S53))), false)))
end
def spec_l7Read.f (k : Nat) (a0 : ByteArray) : Option ((List (S53)) × Bool) := (some (([] : List (S53)) : List (S53))).bind fun y166 => (if a0.toList = ([45] : List UInt8) then (some (y166, true)) else ((spec_l13Cut.f k a0 32).bind fun t172 => (spec_l7Read.l0 k y166 0 (([] : List Int)) t172 (t172.length : Int) 0)))
set_option maxHeartbeats 8000000 in
set_option maxRecDepth 100000 in
theorem spec_l7Read.calls (k : Nat) (a0 : ByteArray) (r1 : List (S53)) (r2 : Bool) (w : World) (h : spec_l7Read.f k a0 = some (r1, r2)) :
  Calls Tryd.prog 19 #[.string a0] w fun e w' => ∃ v0_ : Value, e = .returned (.tuple #[v0_, .bool r2]) ∧ Kd.R k53 53 w' w.heap.size (fun _ => True) v0_ r1 ∧ Below w.heap.size w w' := by
 have hu53 := Tryd.underlying53
 have HB := Az.mk (Below.refl w.heap.size w)
 have H : ((some (([] : List (S53)) : List (S53))).bind fun y166 => (if a0.toList = ([45] : List UInt8) then (some (y166, true)) else ((spec_l13Cut.f k a0 32).bind fun t172 => (spec_l7Read.l0 k y166 0 (([] : List Int)) t172 (t172.length : Int) 0)))) = some (r1, r2) := h
 clear h
 obtain ⟨y166, hy166⟩ : ∃ y_ : List (S53), y_ = (([] : List (S53))) := ⟨_, rfl⟩
 replace H : (if a0.toList = ([45] : List UInt8) then (some (y166, true)) else ((spec_l13Cut.f k a0 32).bind fun t172 => (spec_l7Read.l0 k y166 0 (([] : List Int)) t172 (t172.length : Int) 0))) = some (r1, r2) := by first | (rw [hy166]; with_reducible exact H) | (have H2_ := (Option.bind_some _ _).symm.trans H; rw [hy166]; with_reducible exact H2_) | (have H2_ := (Option.bind_some _ _).symm.trans H; with_reducible exact H2_) | with_reducible exact H | (rw [hy166]; exact H) | exact H
 have Ny166 := Az.mk hy166
 clear hy166
 by_cases c2 : a0.toList = ([45] : List UInt8)
 ·rw [if_pos c2] at H
  have c2b0 : (a0.toList == ([45] : List UInt8)) = true := beq_iff_eq.mpr c2
  have c2b1 : (a0.toList != ([45] : List UInt8)) = false := bne_eq_false_iff_eq.mpr c2
  clear c2
  simp only [Option.some.injEq, Prod.mk.injEq] at H
  obtain ⟨rfl, rfl⟩ := H
  go_enter Tryd.func19, Tryd.ntmps19
  go_wp2_with (first | ((with_reducible refine gate_dst (N := 12) rfl ?_); (try (refine gate_guard (by rfl) ?_; dsimp only)); refine Kd.R_lit k53 _ 53 ?hg (N := 12) ?hd (xs := ([] : List (S53))) (inner := []) (ok := fun _ => True) (okp := fun _ => True) ?hr ?hp (fun _ hk => hk) trivial (Below.refl _ _) (Nat.le_refl _) (by simp) ?_; (case hd => rfl); (case hg => rfl); (case hr => first | (go_simp; done) | (go_simp; rfl)); (case hp => exact (Reps.none _ _)); intro v167 w3 ho4 hb hg_ hnew_; clear hg_ hnew_; (first | rw [← Ny166.out] at ho4 | (simp only [Int.reduceToNat] at ho4; rw [← Ny166.out] at ho4)); have n0_ := Az.mk (Kd.R_lower ho4 (bZ (by repeat first|exact HB.out|apply bA|apply bN|apply bD))); have n1_ := Az.mk (bS (by repeat first|exact HB.out|apply bA|apply bN|apply bD) hb); clear HB; have HO168 := n0_; have HB := n1_; clear n0_ n1_; clear hb ho4))
  go_ret2
  exact ⟨_, by first | rfl | (simp [errW_none, errW_some] <;> rfl) | (simp [*, errW_none, errW_some] <;> rfl), by (with_reducible repeat first|apply Kd.Ra|apply Kd.Rn|apply Kd.Rw); exact HO168.out, by repeat (first | (with_reducible first|exact HB.out|apply bA|apply bN|apply bD) | exact HB.out)⟩
 ·rw [if_neg c2] at H
  have c2b0 : (a0.toList == ([45] : List UInt8)) = false := beq_eq_false_iff_ne.mpr c2
  have c2b1 : (a0.toList != ([45] : List UInt8)) = true := bne_iff_ne.mpr c2
  obtain ⟨y169, hy169⟩ : ∃ y_ : List Int, y_ = (([] : List Int)) := ⟨_, rfl⟩
  replace H : ((spec_l13Cut.f k a0 32).bind fun t172 => (spec_l7Read.l0 k y166 0 y169 t172 (t172.length : Int) 0)) = some (r1, r2) := by first | (rw [hy169]; with_reducible exact H) | (have H2_ := (Option.bind_some _ _).symm.trans H; rw [hy169]; with_reducible exact H2_) | (have H2_ := (Option.bind_some _ _).symm.trans H; with_reducible exact H2_) | with_reducible exact H | (rw [hy169]; exact H) | exact H
  have Ny169 := Az.mk hy169
  clear hy169
  replace H := Option.bind_eq_some_iff.mp H
  obtain ⟨t172, A50, H⟩ := H
  replace H : (spec_l7Read.l0 k y166 0 y169 t172 (t172.length : Int) 0) = some (r1, r2) := H
  have A5 := Az.mk A50
  clear A50
  have H' := Az.mk H
  clear H
  go_enter Tryd.func19, Tryd.ntmps19
  go_wp2_with (first | ((with_reducible refine gate_dst (N := 12) rfl ?_); (try (refine gate_guard (by rfl) ?_; dsimp only)); refine Kd.R_lit k53 _ 53 ?hg (N := 12) ?hd (xs := ([] : List (S53))) (inner := []) (ok := fun _ => True) (okp := fun _ => True) ?hr ?hp (fun _ hk => hk) trivial (Below.refl _ _) (Nat.le_refl _) (by simp) ?_; (case hd => rfl); (case hg => rfl); (case hr => first | (go_simp; done) | (go_simp; rfl)); (case hp => exact (Reps.none _ _)); intro v167 w6 ho7 hb hg_ hnew_; clear hg_ hnew_; (first | rw [← Ny166.out] at ho7 | (simp only [Int.reduceToNat] at ho7; rw [← Ny166.out] at ho7)); have n0_ := Az.mk (Kd.R_lower ho7 (bZ (by repeat first|exact HB.out|apply bA|apply bN|apply bD))); have n1_ := Az.mk (bS (by repeat first|exact HB.out|apply bA|apply bN|apply bD) hb); clear HB; have HO168 := n0_; have HB := n1_; clear n0_ n1_; clear hb ho7) | ((with_reducible refine gate_dst (N := 16) rfl ?_); (try (refine gate_guard (by rfl) ?_; dsimp only)); refine Kd.R_lit (Kd.int .i64) _ 3 ?hg (N := 16) ?hd (xs := ([] : List Int)) (inner := []) (ok := fun _ => True) (okp := fun _ => True) ?hr ?hp (fun _ hk => hk) trivial (Below.refl _ _) (Nat.le_refl _) (by simp) ?_; (case hd => rfl); (case hg => rfl); (case hr => first | (go_simp; done) | (go_simp; rfl)); (case hp => exact (Reps.none _ _)); intro v170 w8 ho9 hb hg_ hnew_; clear hg_ hnew_; (first | rw [← Ny169.out] at ho9 | (simp only [Int.reduceToNat] at ho9; rw [← Ny169.out] at ho9)); have n0_ := Az.mk (Kd.Rb (by (with_reducible repeat first|apply Kd.Ra|apply Kd.Rn|apply Kd.Rw); exact HO168.out) hb); have n1_ := Az.mk (Kd.R_lower ho9 (bZ (by repeat first|exact HB.out|apply bA|apply bN|apply bD))); have n2_ := Az.mk (bS (by repeat first|exact HB.out|apply bA|apply bN|apply bD) hb); clear HO168; clear HB; have HO168 := n0_; have HO171 := n1_; have HB := n2_; clear n0_ n1_ n2_; clear hb ho9) | ((with_reducible refine gate_callee (f := 28) rfl ?_); refine goesL_ (some 18) rfl rfl Tryd.func28 (by kernel_rfl) rfl #[.string a0, .int .u8 32] rfl (by (try simp only [List.map_toArray, List.map_cons, List.map_nil]); first | done | rfl | (simp only [List.length_drop, List.length_take]; rfl)) ?_; (with_reducible refine (spec_l13Cut.calls k a0 32 t172 _ A5.out).mono ?_); rintro e w10 ⟨v173, rfl, ho0, hb⟩; refine ⟨_, rfl, ?_⟩; have n0_ := Az.mk (Kd.Rb (by (with_reducible repeat first|apply Kd.Ra|apply Kd.Rn|apply Kd.Rw); exact HO168.out) hb); have n1_ := Az.mk (Kd.Rb (by (with_reducible repeat first|apply Kd.Ra|apply Kd.Rn|apply Kd.Rw); exact HO171.out) hb); have n2_ := Az.mk (Kd.R_lower ho0 (bZ (by repeat first|exact HB.out|apply bA|apply bN|apply bD))); have n3_ := Az.mk (bS (by repeat first|exact HB.out|apply bA|apply bN|apply bD) hb); clear HO168; clear HO171; clear HB; have HO168 := n0_; have HO171 := n1_; have HO174 := n2_; have HB := n3_; clear n0_ n1_ n2_ n3_; (try clear hb); (try clear hb2); (try clear hk); (try clear hi); (try clear ho0); obtain ⟨Ao11, co11, eo11⟩ := Kd.R_slice HO174.out; subst eo11))
  go_loopg [4, 5, 6, 20] k (fun kq v4 v5 v6 v20 w' => ∃ (x4_1 : List (S53)) (x5_1 : Int) (x6_1 : List Int) (x20_1 : Int), v5 = .int .i64 x5_1 ∧ v20 = .int .i64 x20_1 ∧ Az (spec_l7Read.l0 kq x4_1 x5_1 x6_1 t172 (t172.length : Int) x20_1 = some (r1, r2)) ∧ Az (kq ≤ k) ∧ Az (Kd.R k53 53 w' w.heap.size (fun _ => True) v4 x4_1) ∧ Az (Kd.R (Kd.int .i64) 3 w' w.heap.size (fun _ => True) v6 x6_1) ∧ Az (Kd.R Kd.string 9 w' w.heap.size (fun _ => True) (.slice Ao11 t172.length co11) t172) ∧ Az (Below w.heap.size w w'))
  case atStart => exact ⟨(y166), (0), (y169), (0), (by first | rfl | (simp; done) | (simp [*]; done)), (by first | rfl | (simp; done) | (simp [*]; done)), H', ⟨Nat.le_refl _⟩, ⟨by (with_reducible repeat first|apply Kd.Ra|apply Kd.Rn|apply Kd.Rw); exact HO168.out⟩, ⟨by (with_reducible repeat first|apply Kd.Ra|apply Kd.Rn|apply Kd.Rw); exact HO171.out⟩, ⟨by (with_reducible repeat first|apply Kd.Ra|apply Kd.Rn|apply Kd.Rw); exact HO174.out⟩, ⟨by repeat (first | (with_reducible first|exact HB.out|apply bA|apply bN|apply bD) | exact HB.out)⟩⟩
  case round =>
   clear H'
   try clear c1
   try clear c2
   try clear c2b0
   try clear c2b1
   try clear p2
   obtain ⟨x4_1, x5_1, x6_1, x20_1, rfl, rfl, HA, HK1, HO_4, HO_6, HO_18, HB⟩ := hrel
   cases gk with
   | zero => exact absurd HA.out (by simp [spec_l7Read.l0])
   | succ k1 =>
    have H := HA.out
    clear HA
    simp only [spec_l7Read.l0] at H
    by_cases c12 : x20_1 < (t172.length : Int)
    ·rw [if_pos c12] at H
     have c12b0 : decide (x20_1 < (t172.length : Int)) = true := decide_eq_true c12
     clear c12
     by_cases c13 : 0 ≤ x20_1
     ·rw [if_pos c13] at H
      have c13b0 : decide (0 ≤ x20_1) = true := decide_eq_true c13
      clear c13
      by_cases c14 : x20_1 < (t172.length : Int)
      ·rw [if_pos c14] at H
       have c14b0 : decide (x20_1 < (t172.length : Int)) = true := decide_eq_true c14
       clear c14
       have HC15 := Az.mk H
       clear H
       have p175 : 0 ≤ (x20_1 : Int) := of_decide_eq_true (by first|(with_reducible assumption)|assumption)
       have q175 : x20_1 < (t172.length : Int) := of_decide_eq_true (by first|(with_reducible assumption)|assumption)
       obtain ⟨ad175, e175, hx175_0⟩ := Kd.at_string (Kd.R_reads' HO_18.out).2.2 x20_1 p175 q175
       cases e175
       replace p175 := eq_true p175
       replace q175 := eq_true q175
       go_upto_region 9 with (fail)
       go_cut [30] (fun v30 wc => ∃ (kq : Nat) (x30_14 : Bool), v30 = .bool x30_14 ∧ Az (spec_l7Read.j1 kq x4_1 x5_1 x6_1 (rdOf ByteArray.empty t172 x20_1) t172 (t172.length : Int) x20_1 x30_14 = some (r1, r2)) ∧ Az (kq ≤ k1) ∧ Az (Kd.R k53 53 wc w.heap.size (fun _ => True) u4 x4_1) ∧ Az (Kd.R (Kd.int .i64) 3 wc w.heap.size (fun _ => True) u6 x6_1) ∧ Az (Kd.R Kd.string 9 wc w.heap.size (fun _ => True) (.slice (some ad175) t172.length co11) t172) ∧ Az (Below w.heap.size w wc))
       case first =>
        have H := HC15.out
        clear HC15
        by_cases c16 : (rdOf ByteArray.empty t172 x20_1).toList = ([] : List UInt8)
        ·rw [if_pos c16] at H
         have c16b0 : ((rdOf ByteArray.empty t172 x20_1).toList == ([] : List UInt8)) = true := beq_iff_eq.mpr c16
         have c16b1 : ((rdOf ByteArray.empty t172 x20_1).toList != ([] : List UInt8)) = false := bne_eq_false_iff_eq.mpr c16
         clear c16
         (first | rw [c16b0] | (simp only [i64_w, i32_w]; rw [c16b0]) | skip)
         have H' := Az.mk H
         clear H
         go_wp2
         go_meet
         case rel => exact ⟨_, (true), (by first | rfl | (simp; done) | (simp [*]; done)), H', ⟨by have := HK1.out; first | omega | exact Nat.le_refl _⟩, ⟨by (with_reducible repeat first|apply Kd.Ra|apply Kd.Rn|apply Kd.Rw); exact HO_4.out⟩, ⟨by (with_reducible repeat first|apply Kd.Ra|apply Kd.Rn|apply Kd.Rw); exact HO_6.out⟩, ⟨by (with_reducible repeat first|apply Kd.Ra|apply Kd.Rn|apply Kd.Rw); exact HO_18.out⟩, ⟨by repeat (first | (with_reducible first|exact HB.out|apply bA|apply bN|apply bD) | exact HB.out)⟩⟩
        ·rw [if_neg c16] at H
         have c16b0 : ((rdOf ByteArray.empty t172 x20_1).toList == ([] : List UInt8)) = false := beq_eq_false_iff_ne.mpr c16
         have c16b1 : ((rdOf ByteArray.empty t172 x20_1).toList != ([] : List UInt8)) = true := bne_iff_ne.mpr c16
         (first | rw [c16b0] | (simp only [i64_w, i32_w]; rw [c16b0]) | skip)
         have H' := Az.mk H
         clear H
         obtain ⟨Ao17, co17, eo17⟩ := Kd.R_slice HO_4.out
         subst eo17
         go_wp2
         go_meet
         case rel => exact ⟨_, (decide ((x4_1.length : Int) ≥ 600)), (by first | rfl | (simp; done) | (simp [*]; done)), H', ⟨by have := HK1.out; first | omega | exact Nat.le_refl _⟩, ⟨by (with_reducible repeat first|apply Kd.Ra|apply Kd.Rn|apply Kd.Rw); exact HO_4.out⟩, ⟨by (with_reducible repeat first|apply Kd.Ra|apply Kd.Rn|apply Kd.Rw); exact HO_6.out⟩, ⟨by (with_reducible repeat first|apply Kd.Ra|apply Kd.Rn|apply Kd.Rw); exact HO_18.out⟩, ⟨by repeat (first | (with_reducible first|exact HB.out|apply bA|apply bN|apply bD) | exact HB.out)⟩⟩
       case rest =>
        clear HC15
        try clear c1
        try clear p1
        try clear q1
        try clear hx1
        try clear c2
        try clear c2b0
        try clear c2b1
        try clear p2
        try clear c12
        try clear c12b0
        try clear c13
        try clear c13b0
        try clear c14
        try clear c14b0
        try clear c16
        try clear c16b0
        try clear c16b1
        try clear p17
        try clear q17
        try clear hx17
        try clear hx175_0
        try clear p175
        try clear p2
        try clear q175
        obtain ⟨kq, x30_14, rfl, HA, HJ14, HO_4, HO_6, HO_18, HB⟩ := hcut
        cases kq with
        | zero => exact absurd HA.out (by simp [spec_l7Read.j1])
        | succ kj14 =>
         have H := HA.out
         clear HA
         simp only [spec_l7Read.j1] at H
         by_cases c18 : x30_14 = true
         ·subst c18
          have H1 : (some ((([] : List (S53))), false)) = some (r1, r2) := by rw [if_pos rfl] at H; exact H
          clear H
          have H := H1
          clear H1
          obtain ⟨y176, hy176⟩ : ∃ y_ : List (S53), y_ = (([] : List (S53))) := ⟨_, rfl⟩
          replace H : (some (y176, false)) = some (r1, r2) := by first | (rw [hy176]; with_reducible exact H) | (have H2_ := (Option.bind_some _ _).symm.trans H; rw [hy176]; with_reducible exact H2_) | (have H2_ := (Option.bind_some _ _).symm.trans H; with_reducible exact H2_) | with_reducible exact H | (rw [hy176]; exact H) | exact H
          have Ny176 := Az.mk hy176
          clear hy176
          simp only [Option.some.injEq, Prod.mk.injEq] at H
          obtain ⟨rfl, rfl⟩ := H
          go_wp2_with (first | ((with_reducible refine gate_dst (N := 31) rfl ?_); (try (refine gate_guard (by rfl) ?_; dsimp only)); refine Kd.R_lit k53 _ 53 ?hg (N := 31) ?hd (xs := ([] : List (S53))) (inner := []) (ok := fun _ => True) (okp := fun _ => True) ?hr ?hp (fun _ hk => hk) trivial (Below.refl _ _) (Nat.le_refl _) (by simp) ?_; (case hd => rfl); (case hg => rfl); (case hr => first | (go_simp; done) | (go_simp; rfl)); (case hp => exact (Reps.none _ _)); intro v177 w19 ho20 hb hg_ hnew_; clear hg_ hnew_; (first | rw [← Ny176.out] at ho20 | (simp only [Int.reduceToNat] at ho20; rw [← Ny176.out] at ho20)); have n0_ := Az.mk (Kd.R_elder' (by (with_reducible repeat first|apply Kd.Ra|apply Kd.Rn|apply Kd.Rw); exact HO_4.out) (Kd.R_base ho20) hb); have n1_ := Az.mk (Kd.Rb (by (with_reducible repeat first|apply Kd.Ra|apply Kd.Rn|apply Kd.Rw); exact HO_6.out) hb); have n2_ := Az.mk (Kd.Rb (by (with_reducible repeat first|apply Kd.Ra|apply Kd.Rn|apply Kd.Rw); exact HO_18.out) hb); have n3_ := Az.mk (Kd.R_lower (Kd.R_new' ho20 (Kd.R_lt (by (with_reducible repeat first|apply Kd.Ra|apply Kd.Rn|apply Kd.Rw); exact HO_4.out))) (bZ (by repeat first|exact HB.out|apply bA|apply bN|apply bD))); have n4_ := Az.mk (bS (by repeat first|exact HB.out|apply bA|apply bN|apply bD) hb); clear HO_4; clear HO_6; clear HO_18; clear HB; have HO_4 := n0_; have HO_6 := n1_; have HO_18 := n2_; have HO178 := n3_; have HB := n4_; clear n0_ n1_ n2_ n3_ n4_; clear hb ho20))
          go_ret2
          exact ⟨_, by first | rfl | (simp [errW_none, errW_some] <;> rfl) | (simp [*, errW_none, errW_some] <;> rfl), by (with_reducible repeat first|apply Kd.Ra|apply Kd.Rn|apply Kd.Rw); exact Kd.R_mono HO178.out (fun _ hk => trivial), by repeat (first | (with_reducible first|exact HB.out|apply bA|apply bN|apply bD) | exact HB.out)⟩
         ·replace c18 := Bool.eq_false_iff.mpr c18
          subst c18
          have H1 : (if 1 ≤ ((rdOf ByteArray.empty t172 x20_1).size : Int) then ((spec_l13Num.f kj14 ((rdOf ByteArray.empty t172 x20_1).extract 1 (rdOf ByteArray.empty t172 x20_1).size)).bind fun bt179 => (if 0 < ((rdOf ByteArray.empty t172 x20_1).size : Int) then (if bt179.2 = true then (if (bt (rdOf ByteArray.empty t172 x20_1) 0) = 43 then (spec_l7Read.j2 kj14 x4_1 x5_1 x6_1 bt179.1 t172 (t172.length : Int) x20_1 (bt179.1 == (wrap64 (x5_1 + 1))) (bt (rdOf ByteArray.empty t172 x20_1) 0) bt179.1) else (spec_l7Read.j2 kj14 x4_1 x5_1 x6_1 bt179.1 t172 (t172.length : Int) x20_1 false (bt (rdOf ByteArray.empty t172 x20_1) 0) bt179.1)) else (some ((([] : List (S53))), false))) else (none))) else (none)) = some (r1, r2) := by rw [if_neg (show ¬ (false = true) by decide)] at H; exact H
          clear H
          have H := H1
          clear H1
          by_cases c21 : 1 ≤ ((rdOf ByteArray.empty t172 x20_1).size : Int)
          ·rw [if_pos c21] at H
           have c21b0 := eq_true c21
           have c21b1 : decide (1 ≤ ((rdOf ByteArray.empty t172 x20_1).size : Int)) = true := decide_eq_true c21
           clear c21
           replace H := Option.bind_eq_some_iff.mp H
           obtain ⟨⟨t179, t180⟩, A220, H⟩ := H
           replace H : (if 0 < ((rdOf ByteArray.empty t172 x20_1).size : Int) then (if t180 = true then (if (bt (rdOf ByteArray.empty t172 x20_1) 0) = 43 then (spec_l7Read.j2 kj14 x4_1 x5_1 x6_1 t179 t172 (t172.length : Int) x20_1 (t179 == (wrap64 (x5_1 + 1))) (bt (rdOf ByteArray.empty t172 x20_1) 0) t179) else (spec_l7Read.j2 kj14 x4_1 x5_1 x6_1 t179 t172 (t172.length : Int) x20_1 false (bt (rdOf ByteArray.empty t172 x20_1) 0) t179)) else (some ((([] : List (S53))), false))) else (none)) = some (r1, r2) := H
           have A22 := Az.mk A220
           clear A220
           by_cases c23 : 0 < ((rdOf ByteArray.empty t172 x20_1).size : Int)
           ·rw [if_pos c23] at H
            have c23b0 : decide (0 < ((rdOf ByteArray.empty t172 x20_1).size : Int)) = true := decide_eq_true c23
            have c23b1 : decide (0 < (rdOf ByteArray.empty t172 x20_1).size) = true := decide_eq_true (by omega)
            clear c23
            by_cases c25 : t180 = true
            ·subst c25
             have H1 : (if (bt (rdOf ByteArray.empty t172 x20_1) 0) = 43 then (spec_l7Read.j2 kj14 x4_1 x5_1 x6_1 t179 t172 (t172.length : Int) x20_1 (t179 == (wrap64 (x5_1 + 1))) (bt (rdOf ByteArray.empty t172 x20_1) 0) t179) else (spec_l7Read.j2 kj14 x4_1 x5_1 x6_1 t179 t172 (t172.length : Int) x20_1 false (bt (rdOf ByteArray.empty t172 x20_1) 0) t179)) = some (r1, r2) := by rw [if_pos rfl] at H; exact H
             clear H
             have H := H1
             clear H1
             have HC26 := Az.mk H
             clear H
             go_upto_region 16 with (first | ((with_reducible refine gate_callee (f := 29) rfl ?_); refine goesL_ (some 35) rfl rfl Tryd.func29 (by kernel_rfl) rfl #[.string ((rdOf ByteArray.empty t172 x20_1).extract 1 (rdOf ByteArray.empty t172 x20_1).size)] rfl (by (try simp only [List.map_toArray, List.map_cons, List.map_nil]); first | done | rfl | (simp only [List.length_drop, List.length_take]; rfl)) ?_; (with_reducible refine (spec_l13Num.calls kj14 ((rdOf ByteArray.empty t172 x20_1).extract 1 (rdOf ByteArray.empty t172 x20_1).size) t179 true _ A22.out).mono ?_); rintro e w' ⟨rfl, ⟨nd, rfl⟩⟩; refine ⟨_, rfl, ?_⟩; (try (rw [drewN_self wc]; generalize hq_ : World.drewN wc _ = wc; have n0_ : Az (Kd.R Kd.string 9 wc w.heap.size (fun _ => True) (.slice (some ad175) t172.length co11) t172) := ⟨by rw [← hq_]; exact (by (with_reducible repeat first|apply Kd.Ra|apply Kd.Rn|apply Kd.Rw); exact HO_18.out)⟩; have n1_ : Az (Kd.R k53 53 wc w.heap.size (fun _ => True) u4 x4_1) := ⟨by rw [← hq_]; exact (by (with_reducible repeat first|apply Kd.Ra|apply Kd.Rn|apply Kd.Rw); exact HO_4.out)⟩; have n2_ : Az (Kd.R (Kd.int .i64) 3 wc w.heap.size (fun _ => True) u6 x6_1) := ⟨by rw [← hq_]; exact (by (with_reducible repeat first|apply Kd.Ra|apply Kd.Rn|apply Kd.Rw); exact HO_6.out)⟩; have n3_ : Az (Below w.heap.size w wc) := ⟨by rw [← hq_]; exact (by repeat first|exact HB.out|apply bA|apply bN|apply bD)⟩; clear HO_18 HO_4 HO_6 HB hq_; have HO_18 := n0_; have HO_4 := n1_; have HO_6 := n2_; have HB := n3_; clear n0_ n1_ n2_ n3_)); have p24 : 0 ≤ (0 : Int) := (by omega); have q24 : 0 < (rdOf ByteArray.empty t172 x20_1).size := (by have : (0 : Int) < ((rdOf ByteArray.empty t172 x20_1).size : Int) := of_decide_eq_true (by first|(with_reducible assumption)|assumption); omega); have hx24 : ∀ h : 0 < (rdOf ByteArray.empty t172 x20_1).size, (((rdOf ByteArray.empty t172 x20_1)[0]'h).toNat : Int) = bt (rdOf ByteArray.empty t172 x20_1) 0 := bt_at (rdOf ByteArray.empty t172 x20_1) 0; clear p24; have qi24 : (0 < ((rdOf ByteArray.empty t172 x20_1).size : Int)) = True := eq_true (of_decide_eq_true (by first|(with_reducible assumption)|assumption)); replace q24 := eq_true q24) | ((with_reducible refine gate_dst (N := 11) rfl ?_); (try (refine gate_guard (by rfl) ?_; dsimp only)); refine box_event ?hg (N := 11) ?hd (cs := #[.int .u8 0, .int .i64 0]) (t := 53) ?hr ?_; (case hd => rfl); (case hg => rfl); (case hr => first | (go_simp; done) | (go_simp; rfl)); intro gb181 hg w27 hbox hb; have n0_ := Az.mk (Kd.Rb (Kd.R_elderB (by (with_reducible repeat first|apply Kd.Ra|apply Kd.Rn|apply Kd.Rw); exact HO_4.out) gb181 (Nat.le_of_eq hg.symm)) hb); have n1_ := Az.mk (Kd.Rb (by (with_reducible repeat first|apply Kd.Ra|apply Kd.Rn|apply Kd.Rw); exact HO_6.out) hb); have n2_ := Az.mk (Kd.Rb (by (with_reducible repeat first|apply Kd.Ra|apply Kd.Rn|apply Kd.Rw); exact HO_18.out) hb); have n3_ := Az.mk (bS (by repeat first|exact HB.out|apply bA|apply bN|apply bD) hb); have n4_ := Az.mk (hbox); have n5_ := Az.mk ((by rw [hg]; exact (bZ (by repeat first|exact HB.out|apply bA|apply bN|apply bD)) : w.heap.size ≤ gb181)); have n6_ := Az.mk ((by rw [hg]; exact (bZ (by repeat first|exact HB.out|apply bA|apply bN|apply bD)) : w.heap.size ≤ gb181)); clear HO_4; clear HO_6; clear HO_18; clear HB; have HO_4 := n0_; have HO_6 := n1_; have HO_18 := n2_; have HB := n3_; have BK181 := n4_; have GW181 := n5_; have GE181 := n6_; clear n0_ n1_ n2_ n3_ n4_ n5_ n6_; clear hb hbox hg; have hcz28_0 : w27.cell? ⟨gb181, 0, none⟩ = some (.int .u8 0) := (blk_cell BK181.out 0).trans rfl; have hcz28_1 : w27.cell? ⟨gb181, 1, none⟩ = some (.int .i64 0) := (blk_cell BK181.out 1).trans rfl; have hfz28_0 := blk_frozen BK181.out 0; have hfz28_1 := blk_frozen BK181.out 1))
             (try simp only [Act.put, List.setIfInBounds_toArray, List.set_cons_zero, List.set_cons_succ])
             go_cut [47] (fun v47 wc => ∃ (kq : Nat) (x47_25 : Bool), v47 = .bool x47_25 ∧ Az (spec_l7Read.j2 kq x4_1 x5_1 x6_1 t179 t172 (t172.length : Int) x20_1 x47_25 (bt (rdOf ByteArray.empty t172 x20_1) 0) t179 = some (r1, r2)) ∧ Az (kq ≤ kj14) ∧ Az (Kd.R k53 53 wc w.heap.size (fun k_ => k_ ≠ gb181) u4 x4_1) ∧ Az (Kd.R (Kd.int .i64) 3 wc w.heap.size (fun _ => True) u6 x6_1) ∧ Az (Kd.R Kd.string 9 wc w.heap.size (fun _ => True) (.slice (some ad175) t172.length co11) t172) ∧ Az (wc.heap[gb181]? = some (.cells #[.int .u8 (bt (rdOf ByteArray.empty t172 x20_1) 0), .int .i64 t179] 53 (0, 0))) ∧ Az (Below w.heap.size w wc))
             case first =>
              have H := HC26.out
              clear HC26
              by_cases c29 : (bt (rdOf ByteArray.empty t172 x20_1) 0) = 43
              ·rw [if_pos c29] at H
               have c29b0 : ((bt (rdOf ByteArray.empty t172 x20_1) 0) == 43) = true := beq_iff_eq.mpr c29
               have c29b1 : ((bt (rdOf ByteArray.empty t172 x20_1) 0) != 43) = false := bne_eq_false_iff_eq.mpr c29
               clear c29
               (first | rw [c29b0] | (simp only [i64_w, i32_w]; rw [c29b0]) | skip)
               have H' := Az.mk H
               clear H
               have hcz30_0 : w27.cell? ⟨gb181, 0, none⟩ = some (.int .u8 0) := (blk_cell BK181.out 0).trans rfl
               have hcz30_1 : w27.cell? ⟨gb181, 1, none⟩ = some (.int .i64 0) := (blk_cell BK181.out 1).trans rfl
               have hfz30_0 := blk_frozen BK181.out 0
               have hfz30_1 := blk_frozen BK181.out 1
               go_wp2
               go_meet
               case rel => exact ⟨_, ((t179 == (wrap64 (x5_1 + 1)))), (by first | rfl | (simp; done) | (simp [*]; done)), H', ⟨by have := HK1.out; have := HJ14.out; first | omega | exact Nat.le_refl _⟩, ⟨by (with_reducible repeat first|apply Kd.Ra|apply Kd.Rn|apply Kd.Rw); exact Kd.R_mono (Kd.R_far (p := ⟨gb181, 1, none⟩) (Kd.R_far (p := ⟨gb181, 0, none⟩) (Kd.R_mono HO_4.out (fun k_ hk => (⟨hk, hk.2⟩ : _ ∧ k_ ≠ gb181))) (fun _ hk => hk.2) (.int .u8 (bt (rdOf ByteArray.empty t172 x20_1) 0))) (fun _ hk => hk.2) (.int .i64 t179)) (fun _ hk => hk.1.2)⟩, ⟨by (with_reducible repeat first|apply Kd.Ra|apply Kd.Rn|apply Kd.Rw); exact Kd.R_mono (Kd.R_far (p := ⟨gb181, 1, none⟩) (Kd.R_far (p := ⟨gb181, 0, none⟩) (Kd.R_types HO_6.out BK181.out (by decide)) (fun _ hk => hk.2) (.int .u8 (bt (rdOf ByteArray.empty t172 x20_1) 0))) (fun _ hk => hk.2) (.int .i64 t179)) (fun _ hk => trivial)⟩, ⟨by (with_reducible repeat first|apply Kd.Ra|apply Kd.Rn|apply Kd.Rw); exact Kd.R_mono (Kd.R_far (p := ⟨gb181, 1, none⟩) (Kd.R_far (p := ⟨gb181, 0, none⟩) (Kd.R_types HO_18.out BK181.out (by decide)) (fun _ hk => hk.2) (.int .u8 (bt (rdOf ByteArray.empty t172 x20_1) 0))) (fun _ hk => hk.2) (.int .i64 t179)) (fun _ hk => trivial)⟩, ⟨by (with_reducible repeat first|refine blN ?_ _|refine bl1 ?_|refine blA ?_ _); refine blk_put (cs := #[.int .u8 (bt (rdOf ByteArray.empty t172 x20_1) 0), .int .i64 0]) ?_ 1 _ rfl; (with_reducible repeat first|refine blN ?_ _|refine bl1 ?_|refine blA ?_ _); refine blk_put (cs := #[.int .u8 0, .int .i64 0]) ?_ 0 _ rfl; (with_reducible repeat first|refine blN ?_ _|refine bl1 ?_|refine blA ?_ _); exact BK181.out⟩, ⟨by repeat (first | (with_reducible first|exact HB.out|apply bA|apply bN|apply bD | refine below_set ?_ GE181.out) | exact HB.out)⟩⟩
              ·rw [if_neg c29] at H
               have c29b0 : ((bt (rdOf ByteArray.empty t172 x20_1) 0) == 43) = false := beq_eq_false_iff_ne.mpr c29
               have c29b1 : ((bt (rdOf ByteArray.empty t172 x20_1) 0) != 43) = true := bne_iff_ne.mpr c29
               (first | rw [c29b0] | (simp only [i64_w, i32_w]; rw [c29b0]) | skip)
               have H' := Az.mk H
               clear H
               have hcz31_0 : w27.cell? ⟨gb181, 0, none⟩ = some (.int .u8 0) := (blk_cell BK181.out 0).trans rfl
               have hcz31_1 : w27.cell? ⟨gb181, 1, none⟩ = some (.int .i64 0) := (blk_cell BK181.out 1).trans rfl
               have hfz31_0 := blk_frozen BK181.out 0
               have hfz31_1 := blk_frozen BK181.out 1
               go_wp2
               go_meet
               case rel => exact ⟨_, (false), (by first | rfl | (simp; done) | (simp [*]; done)), H', ⟨by have := HK1.out; have := HJ14.out; first | omega | exact Nat.le_refl _⟩, ⟨by (with_reducible repeat first|apply Kd.Ra|apply Kd.Rn|apply Kd.Rw); exact Kd.R_mono (Kd.R_far (p := ⟨gb181, 1, none⟩) (Kd.R_far (p := ⟨gb181, 0, none⟩) (Kd.R_mono HO_4.out (fun k_ hk => (⟨hk, hk.2⟩ : _ ∧ k_ ≠ gb181))) (fun _ hk => hk.2) (.int .u8 (bt (rdOf ByteArray.empty t172 x20_1) 0))) (fun _ hk => hk.2) (.int .i64 t179)) (fun _ hk => hk.1.2)⟩, ⟨by (with_reducible repeat first|apply Kd.Ra|apply Kd.Rn|apply Kd.Rw); exact Kd.R_mono (Kd.R_far (p := ⟨gb181, 1, none⟩) (Kd.R_far (p := ⟨gb181, 0, none⟩) (Kd.R_types HO_6.out BK181.out (by decide)) (fun _ hk => hk.2) (.int .u8 (bt (rdOf ByteArray.empty t172 x20_1) 0))) (fun _ hk => hk.2) (.int .i64 t179)) (fun _ hk => trivial)⟩, ⟨by (with_reducible repeat first|apply Kd.Ra|apply Kd.Rn|apply Kd.Rw); exact Kd.R_mono (Kd.R_far (p := ⟨gb181, 1, none⟩) (Kd.R_far (p := ⟨gb181, 0, none⟩) (Kd.R_types HO_18.out BK181.out (by decide)) (fun _ hk => hk.2) (.int .u8 (bt (rdOf ByteArray.empty t172 x20_1) 0))) (fun _ hk => hk.2) (.int .i64 t179)) (fun _ hk => trivial)⟩, ⟨by (with_reducible repeat first|refine blN ?_ _|refine bl1 ?_|refine blA ?_ _); refine blk_put (cs := #[.int .u8 (bt (rdOf ByteArray.empty t172 x20_1) 0), .int .i64 0]) ?_ 1 _ rfl; (with_reducible repeat first|refine blN ?_ _|refine bl1 ?_|refine blA ?_ _); refine blk_put (cs := #[.int .u8 0, .int .i64 0]) ?_ 0 _ rfl; (with_reducible repeat first|refine blN ?_ _|refine bl1 ?_|refine blA ?_ _); exact BK181.out⟩, ⟨by repeat (first | (with_reducible first|exact HB.out|apply bA|apply bN|apply bD | refine below_set ?_ GE181.out) | exact HB.out)⟩⟩
             case rest =>
              clear HC26
              try clear c1
              try clear p1
              try clear q1
              try clear hx1
              try clear c2
              try clear c2b0
              try clear c2b1
              try clear p2
              try clear q2
              try clear hx2
              try clear qi2
              try clear p6
              try clear c12
              try clear c12b0
              try clear c13
              try clear c13b0
              try clear c14
              try clear c14b0
              try clear c16
              try clear c16b0
              try clear c16b1
              try clear p17
              try clear q17
              try clear hx17
              try clear c18
              try clear c19
              try clear c21
              try clear c21b0
              try clear c21b1
              try clear c23
              try clear c23b0
              try clear c23b1
              try clear p24
              try clear q24
              try clear hx24
              try clear qi24
              try clear c25
              try clear c28
              try clear c29
              try clear c29b0
              try clear c29b1
              try clear hcz28_0
              try clear hcz28_1
              try clear hcz30_0
              try clear hcz30_1
              try clear hcz31_0
              try clear hcz31_1
              try clear hfz28_0
              try clear hfz28_1
              try clear hfz30_0
              try clear hfz30_1
              try clear hfz31_0
              try clear hfz31_1
              try clear hx175_0
              try clear p1
              try clear p17
              try clear p175
              try clear p2
              try clear p24
              try clear q1
              try clear q17
              try clear q175
              try clear q24
              obtain ⟨kq, x47_25, rfl, HA, HJ25, HO_4, HO_6, HO_18, BK181, HB⟩ := hcut
              cases kq with
              | zero => exact absurd HA.out (by simp [spec_l7Read.j2])
              | succ kj25 =>
               have H := HA.out
               clear HA
               simp only [spec_l7Read.j2] at H
               by_cases c32 : x47_25 = true
               ·subst c32
                have H1 : (if x6_1.length < 17592186044416 then (if x4_1.length < 8796093022208 then (spec_l7Read.l0 kj25 (x4_1 ++ [(⟨(bt (rdOf ByteArray.empty t172 x20_1) 0), t179⟩ : S53)]) t179 (x6_1 ++ [t179]) t172 (t172.length : Int) (wrap64 (x20_1 + 1))) else (none)) else (none)) = some (r1, r2) := by rw [if_pos rfl] at H; exact H
                clear H
                have H := H1
                clear H1
                by_cases c33 : x6_1.length < 17592186044416
                ·rw [if_pos c33] at H
                 have LMc33 := Az.mk c33
                 clear c33
                 obtain ⟨y182, hy182⟩ : ∃ y_ : List Int, y_ = (x6_1 ++ [t179]) := ⟨_, rfl⟩
                 replace H : (if x4_1.length < 8796093022208 then (spec_l7Read.l0 kj25 (x4_1 ++ [(⟨(bt (rdOf ByteArray.empty t172 x20_1) 0), t179⟩ : S53)]) t179 y182 t172 (t172.length : Int) (wrap64 (x20_1 + 1))) else (none)) = some (r1, r2) := by first | (rw [hy182]; with_reducible exact H) | (have H2_ := (Option.bind_some _ _).symm.trans H; rw [hy182]; with_reducible exact H2_) | (have H2_ := (Option.bind_some _ _).symm.trans H; with_reducible exact H2_) | with_reducible exact H | (rw [hy182]; exact H) | exact H
                 have Ny182 := Az.mk hy182
                 clear hy182
                 by_cases c34 : x4_1.length < 8796093022208
                 ·rw [if_pos c34] at H
                  have LMc34 := Az.mk c34
                  clear c34
                  obtain ⟨y185, hy185⟩ : ∃ y_ : List (S53), y_ = (x4_1 ++ [(⟨(bt (rdOf ByteArray.empty t172 x20_1) 0), t179⟩ : S53)]) := ⟨_, rfl⟩
                  replace H : (spec_l7Read.l0 kj25 y185 t179 y182 t172 (t172.length : Int) (wrap64 (x20_1 + 1))) = some (r1, r2) := by first | (rw [hy185]; with_reducible exact H) | (have H2_ := (Option.bind_some _ _).symm.trans H; rw [hy185]; with_reducible exact H2_) | (have H2_ := (Option.bind_some _ _).symm.trans H; with_reducible exact H2_) | with_reducible exact H | (rw [hy185]; exact H) | exact H
                  have Ny185 := Az.mk hy185
                  clear hy185
                  have H' := Az.mk H
                  clear H
                  go_wp2_with (first | ((with_reducible refine gate_builtin (b := .append) (xs := #[.tmp 58, .tmp 60]) rfl ?_); (try (refine gate_guard (by rfl) ?_; dsimp only)); at_builtin; refine Kd.R_append (Kd.int .i64) (w0 := w) w.heap.size rfl (.tmp 58) (.tmp 60) 23 3 (.int .i64 0) 8 rfl Tryd.underlying23 info3 rfl (by decide) (by omega) u6 x6_1 t179 [.int .i64 t179] (fun _ => True) (fun _ => False) rfl rfl ?aP (fun _ hk => hk.elim) ?aF ?aO ?aB ?aS ?aL ?_; (case aP => exact rfl); (case aB => exact (by repeat (first | (with_reducible first|exact HB.out|apply bA|apply bN|apply bD | refine below_set ?_ GE181.out) | exact HB.out))); (case aF => exact (fun _ _ => trivial)); (case aO => exact (by (with_reducible repeat first|apply Kd.Ra|apply Kd.Rn|apply Kd.Rw); exact HO_6.out)); (case aS => exact (bZ (by repeat (first | (with_reducible first|exact HB.out|apply bA|apply bN|apply bD | refine below_set ?_ GE181.out) | exact HB.out)))); (case aL => have := LMc33.out; omega); intro v183 w35 ho hb hg hat; rw [← Ny182.out] at ho; have n0_ := Az.mk (Kd.R_over' (by (with_reducible repeat first|apply Kd.Ra|apply Kd.Rn|apply Kd.Rw); exact HO_4.out) (Kd.R_typed (by (with_reducible repeat first|apply Kd.Ra|apply Kd.Rn|apply Kd.Rw); exact HO_6.out)) (by decide) hg); have n1_ := Az.mk (Kd.R_over' (by (with_reducible repeat first|apply Kd.Ra|apply Kd.Rn|apply Kd.Rw); exact HO_18.out) (Kd.R_typed (by (with_reducible repeat first|apply Kd.Ra|apply Kd.Rn|apply Kd.Rw); exact HO_6.out)) (by decide) hg); have n2_ := Az.mk (blk_grown (g := gb181) (o := .cells #[.int .u8 (bt (rdOf ByteArray.empty t172 x20_1) 0), .int .i64 t179] 53 (0, 0)) (by (with_reducible repeat first|refine blN ?_ _|refine bl1 ?_|refine blA ?_ _); exact BK181.out) hg (Kd.R_ne HO_6.out BK181.out (by decide))); have n3_ := Az.mk (hb); have n4_ := Az.mk (ho); clear HO_4; clear HO_18; clear BK181; clear HB; clear HO_6; have HO_4 := n0_; have HO_18 := n1_; have BK181 := n2_; have HB := n3_; have HO184 := n4_; clear n0_ n1_ n2_ n3_ n4_; clear ho hb hg hat; have hcz36_0 : w35.cell? ⟨gb181, 0, none⟩ = some (.int .u8 (bt (rdOf ByteArray.empty t172 x20_1) 0)) := (blk_cell BK181.out 0).trans rfl; have hcz36_1 : w35.cell? ⟨gb181, 1, none⟩ = some (.int .i64 t179) := (blk_cell BK181.out 1).trans rfl; have hfz36_0 := blk_frozen BK181.out 0; have hfz36_1 := blk_frozen BK181.out 1) | ((with_reducible refine gate_builtin (b := .append) (xs := #[.tmp 83, .tmp 85]) rfl ?_); (try (refine gate_guard (by rfl) ?_; dsimp only)); at_builtin; refine Kd.R_append k53 (w0 := w) w.heap.size rfl (.tmp 83) (.tmp 85) 45 53 (.agg #[(.int .u8 0), (.int .i64 0)]) 16 rfl Tryd.underlying45 info53 rfl (by decide) (by omega) u4 x4_1 (⟨(bt (rdOf ByteArray.empty t172 x20_1) 0), t179⟩ : S53) [.int .u8 (bt (rdOf ByteArray.empty t172 x20_1) 0), .int .i64 t179] (fun k_ => k_ ≠ gb181) (fun _ => False) rfl rfl ?aP (fun _ hk => hk.elim) ?aF ?aO ?aB ?aS ?aL ?_; (case aP => exact k53_mkM _ _ _ (⟨(bt (rdOf ByteArray.empty t172 x20_1) 0), t179⟩ : S53)); (case aB => exact (by repeat (first | (with_reducible first|exact HB.out|apply bA|apply bN|apply bD | refine below_set ?_ GE181.out) | exact HB.out))); (case aF => exact (fun k_ hk => Kd.freshB (g := gb181) (o := .cells #[.int .u8 (bt (rdOf ByteArray.empty t172 x20_1) 0), .int .i64 t179] 53 (0, 0)) (by (with_reducible repeat first|refine blN ?_ _|refine bl1 ?_|refine blA ?_ _); exact BK181.out) k_ hk)); (case aO => exact (by (with_reducible repeat first|apply Kd.Ra|apply Kd.Rn|apply Kd.Rw); exact HO_4.out)); (case aS => exact (bZ (by repeat (first | (with_reducible first|exact HB.out|apply bA|apply bN|apply bD | refine below_set ?_ GE181.out) | exact HB.out)))); (case aL => have := LMc34.out; omega); intro v186 w37 ho hb hg hat; rw [← Ny185.out] at ho; have n0_ := Az.mk (Kd.R_over' (by (with_reducible repeat first|apply Kd.Ra|apply Kd.Rn|apply Kd.Rw); exact HO_18.out) (Kd.R_typed (by (with_reducible repeat first|apply Kd.Ra|apply Kd.Rn|apply Kd.Rw); exact HO_4.out)) (by decide) hg); have n1_ := Az.mk (blk_grown (g := gb181) (o := .cells #[.int .u8 (bt (rdOf ByteArray.empty t172 x20_1) 0), .int .i64 t179] 53 (0, 0)) (by (with_reducible repeat first|refine blN ?_ _|refine bl1 ?_|refine blA ?_ _); exact BK181.out) hg (Kd.R_away HO_4.out (fun _ hk => hk))); have n2_ := Az.mk (Kd.R_over' (by (with_reducible repeat first|apply Kd.Ra|apply Kd.Rn|apply Kd.Rw); exact HO184.out) (Kd.R_typed (by (with_reducible repeat first|apply Kd.Ra|apply Kd.Rn|apply Kd.Rw); exact HO_4.out)) (by decide) hg); have n3_ := Az.mk (hb); have n4_ := Az.mk (ho); clear HO_18; clear BK181; clear HO184; clear HB; clear HO_4; have HO_18 := n0_; have BK181 := n1_; have HO184 := n2_; have HB := n3_; have HO187 := n4_; clear n0_ n1_ n2_ n3_ n4_; clear ho hb hg hat))
                  go_roundg kj25
                  case measure => have := HK1.out; have := HJ14.out; have := HJ25.out; omega
                  case rel => exact ⟨(y185), (t179), (y182), (wrap64 (x20_1 + 1)), (by first | rfl | (simp; done) | (simp [*]; done)), (by first | rfl | (simp; done) | (simp [*]; done)), H', ⟨by have := HK1.out; have := HJ14.out; have := HJ25.out; omega⟩, ⟨by (with_reducible repeat first|apply Kd.Ra|apply Kd.Rn|apply Kd.Rw); exact Kd.R_mono HO187.out (fun _ hk => trivial)⟩, ⟨by (with_reducible repeat first|apply Kd.Ra|apply Kd.Rn|apply Kd.Rw); exact HO184.out⟩, ⟨by (with_reducible repeat first|apply Kd.Ra|apply Kd.Rn|apply Kd.Rw); exact HO_18.out⟩, ⟨by repeat (first | (with_reducible first|exact HB.out|apply bA|apply bN|apply bD | refine below_set ?_ GE181.out) | exact HB.out)⟩⟩
                 ·rw [if_neg c34] at H
                  exact absurd H (by simp)
                ·rw [if_neg c33] at H
                 exact absurd H (by simp)
               ·replace c32 := Bool.eq_false_iff.mpr c32
                subst c32
                have H1 : (if (bt (rdOf ByteArray.empty t172 x20_1) 0) = 46 then ((spec_l7In.f kj25 x6_1 t179).bind fun t188 => (spec_l7Read.j3 kj25 x4_1 x5_1 x6_1 t179 t172 (t172.length : Int) x20_1 t188 (bt (rdOf ByteArray.empty t172 x20_1) 0) t179)) else (spec_l7Read.j3 kj25 x4_1 x5_1 x6_1 t179 t172 (t172.length : Int) x20_1 false (bt (rdOf ByteArray.empty t172 x20_1) 0) t179)) = some (r1, r2) := by rw [if_neg (show ¬ (false = true) by decide)] at H; exact H
                clear H
                have H := H1
                clear H1
                have HC38 := Az.mk H
                clear H
                go_upto_region 19 with (fail)
                go_cut [62] (fun v62 wc => ∃ (kq : Nat) (x62_37 : Bool), v62 = .bool x62_37 ∧ Az (spec_l7Read.j3 kq x4_1 x5_1 x6_1 t179 t172 (t172.length : Int) x20_1 x62_37 (bt (rdOf ByteArray.empty t172 x20_1) 0) t179 = some (r1, r2)) ∧ Az (kq ≤ kj25) ∧ Az (Kd.R k53 53 wc w.heap.size (fun k_ => k_ ≠ gb181) u4 x4_1) ∧ Az (Kd.R (Kd.int .i64) 3 wc w.heap.size (fun _ => True) u6 x6_1) ∧ Az (Kd.R Kd.string 9 wc w.heap.size (fun _ => True) (.slice (some ad175) t172.length co11) t172) ∧ Az (wc.heap[gb181]? = some (.cells #[.int .u8 (bt (rdOf ByteArray.empty t172 x20_1) 0), .int .i64 t179] 53 (0, 0))) ∧ Az (Below w.heap.size w wc))
                case first =>
                 have H := HC38.out
                 clear HC38
                 by_cases c39 : (bt (rdOf ByteArray.empty t172 x20_1) 0) = 46
                 ·rw [if_pos c39] at H
                  have c39b0 : ((bt (rdOf ByteArray.empty t172 x20_1) 0) == 46) = true := beq_iff_eq.mpr c39
                  have c39b1 : ((bt (rdOf ByteArray.empty t172 x20_1) 0) != 46) = false := bne_eq_false_iff_eq.mpr c39
                  clear c39
                  (first | rw [c39b0] | (simp only [i64_w, i32_w]; rw [c39b0]) | skip)
                  replace H := Option.bind_eq_some_iff.mp H
                  obtain ⟨t188, A400, H⟩ := H
                  replace H : (spec_l7Read.j3 kj25 x4_1 x5_1 x6_1 t179 t172 (t172.length : Int) x20_1 t188 (bt (rdOf ByteArray.empty t172 x20_1) 0) t179) = some (r1, r2) := H
                  have A40 := Az.mk A400
                  clear A400
                  have H' := Az.mk H
                  clear H
                  have hcz41_0 : wc.cell? ⟨gb181, 0, none⟩ = some (.int .u8 (bt (rdOf ByteArray.empty t172 x20_1) 0)) := (blk_cell BK181.out 0).trans rfl
                  have hcz41_1 : wc.cell? ⟨gb181, 1, none⟩ = some (.int .i64 t179) := (blk_cell BK181.out 1).trans rfl
                  have hfz41_0 := blk_frozen BK181.out 0
                  have hfz41_1 := blk_frozen BK181.out 1
                  obtain ⟨Ao42, co42, eo42⟩ := Kd.R_slice HO_6.out
                  subst eo42
                  go_wp2_with (first | (go_at_call 30; (with_reducible refine (spec_l7In.calls kj25 _ _ x6_1 t179 t188 _ ?side1 ?side2 A40.out).mono ?_); (case side1 => repeat (first | exact (Kd.R_reads' HO_6.out).2.2 | (with_reducible refine Kd.C_alloc ?_ _) | (with_reducible refine Kd.C_drewN ?_ _) | (with_reducible refine Kd.C_drew ?_))); (case side2 => exact (Kd.R_reads' HO_6.out).2.1); rintro e w' ⟨rfl, ⟨nd, rfl⟩⟩))
                  go_meet
                  case rel => exact ⟨_, (t188), (by first | rfl | (simp; done) | (simp [*]; done)), H', ⟨by have := HK1.out; have := HJ14.out; have := HJ25.out; first | omega | exact Nat.le_refl _⟩, ⟨by (with_reducible repeat first|apply Kd.Ra|apply Kd.Rn|apply Kd.Rw); exact HO_4.out⟩, ⟨by (with_reducible repeat first|apply Kd.Ra|apply Kd.Rn|apply Kd.Rw); exact HO_6.out⟩, ⟨by (with_reducible repeat first|apply Kd.Ra|apply Kd.Rn|apply Kd.Rw); exact HO_18.out⟩, ⟨by (with_reducible repeat first|refine blN ?_ _|refine bl1 ?_|refine blA ?_ _); exact BK181.out⟩, ⟨by repeat (first | (with_reducible first|exact HB.out|apply bA|apply bN|apply bD | refine below_set ?_ GE181.out) | exact HB.out)⟩⟩
                 ·rw [if_neg c39] at H
                  have c39b0 : ((bt (rdOf ByteArray.empty t172 x20_1) 0) == 46) = false := beq_eq_false_iff_ne.mpr c39
                  have c39b1 : ((bt (rdOf ByteArray.empty t172 x20_1) 0) != 46) = true := bne_iff_ne.mpr c39
                  (first | rw [c39b0] | (simp only [i64_w, i32_w]; rw [c39b0]) | skip)
                  have H' := Az.mk H
                  clear H
                  have hcz43_0 : wc.cell? ⟨gb181, 0, none⟩ = some (.int .u8 (bt (rdOf ByteArray.empty t172 x20_1) 0)) := (blk_cell BK181.out 0).trans rfl
                  have hcz43_1 : wc.cell? ⟨gb181, 1, none⟩ = some (.int .i64 t179) := (blk_cell BK181.out 1).trans rfl
                  have hfz43_0 := blk_frozen BK181.out 0
                  have hfz43_1 := blk_frozen BK181.out 1
                  go_wp2
                  go_meet
                  case rel => exact ⟨_, (false), (by first | rfl | (simp; done) | (simp [*]; done)), H', ⟨by have := HK1.out; have := HJ14.out; have := HJ25.out; first | omega | exact Nat.le_refl _⟩, ⟨by (with_reducible repeat first|apply Kd.Ra|apply Kd.Rn|apply Kd.Rw); exact HO_4.out⟩, ⟨by (with_reducible repeat first|apply Kd.Ra|apply Kd.Rn|apply Kd.Rw); exact HO_6.out⟩, ⟨by (with_reducible repeat first|apply Kd.Ra|apply Kd.Rn|apply Kd.Rw); exact HO_18.out⟩, ⟨by (with_reducible repeat first|refine blN ?_ _|refine bl1 ?_|refine blA ?_ _); exact BK181.out⟩, ⟨by repeat (first | (with_reducible first|exact HB.out|apply bA|apply bN|apply bD | refine below_set ?_ GE181.out) | exact HB.out)⟩⟩
                case rest =>
                 clear HC38
                 try clear c1
                 try clear p1
                 try clear q1
                 try clear hx1
                 try clear c2
                 try clear c2b0
                 try clear c2b1
                 try clear p2
                 try clear q2
                 try clear hx2
                 try clear qi2
                 try clear c3
                 try clear p6
                 try clear c12
                 try clear c12b0
                 try clear c13
                 try clear c13b0
                 try clear c14
                 try clear c14b0
                 try clear c16
                 try clear c16b0
                 try clear c16b1
                 try clear p17
                 try clear q17
                 try clear hx17
                 try clear c18
                 try clear c19
                 try clear c21
                 try clear c21b0
                 try clear c21b1
                 try clear c23
                 try clear c23b0
                 try clear c23b1
                 try clear p24
                 try clear q24
                 try clear hx24
                 try clear qi24
                 try clear c25
                 try clear c28
                 try clear c29
                 try clear c29b0
                 try clear c29b1
                 try clear c32
                 try clear c33
                 try clear c34
                 try clear c39
                 try clear c39b0
                 try clear c39b1
                 try clear hcz28_0
                 try clear hcz28_1
                 try clear hcz30_0
                 try clear hcz30_1
                 try clear hcz31_0
                 try clear hcz31_1
                 try clear hcz36_0
                 try clear hcz36_1
                 try clear hcz41_0
                 try clear hcz41_1
                 try clear hcz43_0
                 try clear hcz43_1
                 try clear hfz28_0
                 try clear hfz28_1
                 try clear hfz30_0
                 try clear hfz30_1
                 try clear hfz31_0
                 try clear hfz31_1
                 try clear hfz36_0
                 try clear hfz36_1
                 try clear hfz41_0
                 try clear hfz41_1
                 try clear hfz43_0
                 try clear hfz43_1
                 try clear hx175_0
                 try clear p1
                 try clear p17
                 try clear p175
                 try clear p2
                 try clear p24
                 try clear p6
                 try clear q1
                 try clear q17
                 try clear q175
                 try clear q2
                 try clear q24
                 obtain ⟨kq, x62_37, rfl, HA, HJ37, HO_4, HO_6, HO_18, BK181, HB⟩ := hcut
                 cases kq with
                 | zero => exact absurd HA.out (by simp [spec_l7Read.j3])
                 | succ kj37 =>
                  have H := HA.out
                  clear HA
                  simp only [spec_l7Read.j3] at H
                  by_cases c44 : x62_37 = true
                  ·subst c44
                   have H1 : (if x4_1.length < 8796093022208 then (spec_l7Read.l0 kj37 (x4_1 ++ [(⟨(bt (rdOf ByteArray.empty t172 x20_1) 0), t179⟩ : S53)]) x5_1 x6_1 t172 (t172.length : Int) (wrap64 (x20_1 + 1))) else (none)) = some (r1, r2) := by rw [if_pos rfl] at H; exact H
                   clear H
                   have H := H1
                   clear H1
                   by_cases c45 : x4_1.length < 8796093022208
                   ·rw [if_pos c45] at H
                    have LMc45 := Az.mk c45
                    clear c45
                    obtain ⟨y189, hy189⟩ : ∃ y_ : List (S53), y_ = (x4_1 ++ [(⟨(bt (rdOf ByteArray.empty t172 x20_1) 0), t179⟩ : S53)]) := ⟨_, rfl⟩
                    replace H : (spec_l7Read.l0 kj37 y189 x5_1 x6_1 t172 (t172.length : Int) (wrap64 (x20_1 + 1))) = some (r1, r2) := by first | (rw [hy189]; with_reducible exact H) | (have H2_ := (Option.bind_some _ _).symm.trans H; rw [hy189]; with_reducible exact H2_) | (have H2_ := (Option.bind_some _ _).symm.trans H; with_reducible exact H2_) | with_reducible exact H | (rw [hy189]; exact H) | exact H
                    have Ny189 := Az.mk hy189
                    clear hy189
                    have H' := Az.mk H
                    clear H
                    have hcz46_0 : wc.cell? ⟨gb181, 0, none⟩ = some (.int .u8 (bt (rdOf ByteArray.empty t172 x20_1) 0)) := (blk_cell BK181.out 0).trans rfl
                    have hcz46_1 : wc.cell? ⟨gb181, 1, none⟩ = some (.int .i64 t179) := (blk_cell BK181.out 1).trans rfl
                    have hfz46_0 := blk_frozen BK181.out 0
                    have hfz46_1 := blk_frozen BK181.out 1
                    go_wp2_with (first | ((with_reducible refine gate_builtin (b := .append) (xs := #[.tmp 83, .tmp 85]) rfl ?_); (try (refine gate_guard (by rfl) ?_; dsimp only)); at_builtin; refine Kd.R_append k53 (w0 := w) w.heap.size rfl (.tmp 83) (.tmp 85) 45 53 (.agg #[(.int .u8 0), (.int .i64 0)]) 16 rfl Tryd.underlying45 info53 rfl (by decide) (by omega) u4 x4_1 (⟨(bt (rdOf ByteArray.empty t172 x20_1) 0), t179⟩ : S53) [.int .u8 (bt (rdOf ByteArray.empty t172 x20_1) 0), .int .i64 t179] (fun k_ => k_ ≠ gb181) (fun _ => False) rfl rfl ?aP (fun _ hk => hk.elim) ?aF ?aO ?aB ?aS ?aL ?_; (case aP => exact k53_mkM _ _ _ (⟨(bt (rdOf ByteArray.empty t172 x20_1) 0), t179⟩ : S53)); (case aB => exact (by repeat (first | (with_reducible first|exact HB.out|apply bA|apply bN|apply bD | refine below_set ?_ GE181.out) | exact HB.out))); (case aF => exact (fun k_ hk => Kd.freshB (g := gb181) (o := .cells #[.int .u8 (bt (rdOf ByteArray.empty t172 x20_1) 0), .int .i64 t179] 53 (0, 0)) (by (with_reducible repeat first|refine blN ?_ _|refine bl1 ?_|refine blA ?_ _); exact BK181.out) k_ hk)); (case aO => exact (by (with_reducible repeat first|apply Kd.Ra|apply Kd.Rn|apply Kd.Rw); exact HO_4.out)); (case aS => exact (bZ (by repeat (first | (with_reducible first|exact HB.out|apply bA|apply bN|apply bD | refine below_set ?_ GE181.out) | exact HB.out)))); (case aL => have := LMc45.out; omega); intro v190 w47 ho hb hg hat; rw [← Ny189.out] at ho; have n0_ := Az.mk (Kd.R_over' (by (with_reducible repeat first|apply Kd.Ra|apply Kd.Rn|apply Kd.Rw); exact HO_6.out) (Kd.R_typed (by (with_reducible repeat first|apply Kd.Ra|apply Kd.Rn|apply Kd.Rw); exact HO_4.out)) (by decide) hg); have n1_ := Az.mk (Kd.R_over' (by (with_reducible repeat first|apply Kd.Ra|apply Kd.Rn|apply Kd.Rw); exact HO_18.out) (Kd.R_typed (by (with_reducible repeat first|apply Kd.Ra|apply Kd.Rn|apply Kd.Rw); exact HO_4.out)) (by decide) hg); have n2_ := Az.mk (blk_grown (g := gb181) (o := .cells #[.int .u8 (bt (rdOf ByteArray.empty t172 x20_1) 0), .int .i64 t179] 53 (0, 0)) (by (with_reducible repeat first|refine blN ?_ _|refine bl1 ?_|refine blA ?_ _); exact BK181.out) hg (Kd.R_away HO_4.out (fun _ hk => hk))); have n3_ := Az.mk (hb); have n4_ := Az.mk (ho); clear HO_6; clear HO_18; clear BK181; clear HB; clear HO_4; have HO_6 := n0_; have HO_18 := n1_; have BK181 := n2_; have HB := n3_; have HO191 := n4_; clear n0_ n1_ n2_ n3_ n4_; clear ho hb hg hat))
                    go_roundg kj37
                    case measure => have := HK1.out; have := HJ14.out; have := HJ25.out; have := HJ37.out; omega
                    case rel => exact ⟨(y189), (x5_1), (x6_1), (wrap64 (x20_1 + 1)), (by first | rfl | (simp; done) | (simp [*]; done)), (by first | rfl | (simp; done) | (simp [*]; done)), H', ⟨by have := HK1.out; have := HJ14.out; have := HJ25.out; have := HJ37.out; omega⟩, ⟨by (with_reducible repeat first|apply Kd.Ra|apply Kd.Rn|apply Kd.Rw); exact Kd.R_mono HO191.out (fun _ hk => trivial)⟩, ⟨by (with_reducible repeat first|apply Kd.Ra|apply Kd.Rn|apply Kd.Rw); exact HO_6.out⟩, ⟨by (with_reducible repeat first|apply Kd.Ra|apply Kd.Rn|apply Kd.Rw); exact HO_18.out⟩, ⟨by repeat (first | (with_reducible first|exact HB.out|apply bA|apply bN|apply bD | refine below_set ?_ GE181.out) | exact HB.out)⟩⟩
                   ·rw [if_neg c45] at H
                    exact absurd H (by simp)
                  ·replace c44 := Bool.eq_false_iff.mpr c44
                   subst c44
                   have H1 : (if (bt (rdOf ByteArray.empty t172 x20_1) 0) = 45 then ((spec_l7In.f kj37 x6_1 t179).bind fun t192 => (if t192 = true then ((spec_l7Without.f kj37 x6_1 t179).bind fun t193 => (if x4_1.length < 8796093022208 then (spec_l7Read.l0 kj37 (x4_1 ++ [(⟨(bt (rdOf ByteArray.empty t172 x20_1) 0), t179⟩ : S53)]) x5_1 t193 t172 (t172.length : Int) (wrap64 (x20_1 + 1))) else (none))) else (some ((([] : List (S53))), false)))) else (some ((([] : List (S53))), false))) = some (r1, r2) := by rw [if_neg (show ¬ (false = true) by decide)] at H; exact H
                   clear H
                   have H := H1
                   clear H1
                   by_cases c48 : (bt (rdOf ByteArray.empty t172 x20_1) 0) = 45
                   ·rw [if_pos c48] at H
                    have c48b0 : ((bt (rdOf ByteArray.empty t172 x20_1) 0) == 45) = true := beq_iff_eq.mpr c48
                    have c48b1 : ((bt (rdOf ByteArray.empty t172 x20_1) 0) != 45) = false := bne_eq_false_iff_eq.mpr c48
                    clear c48
                    replace H := Option.bind_eq_some_iff.mp H
                    obtain ⟨t192, A490, H⟩ := H
                    replace H : (if t192 = true then ((spec_l7Without.f kj37 x6_1 t179).bind fun t193 => (if x4_1.length < 8796093022208 then (spec_l7Read.l0 kj37 (x4_1 ++ [(⟨(bt (rdOf ByteArray.empty t172 x20_1) 0), t179⟩ : S53)]) x5_1 t193 t172 (t172.length : Int) (wrap64 (x20_1 + 1))) else (none))) else (some ((([] : List (S53))), false))) = some (r1, r2) := H
                    have A49 := Az.mk A490
                    clear A490
                    by_cases c50 : t192 = true
                    ·subst c50
                     have H1 : ((spec_l7Without.f kj37 x6_1 t179).bind fun t193 => (if x4_1.length < 8796093022208 then (spec_l7Read.l0 kj37 (x4_1 ++ [(⟨(bt (rdOf ByteArray.empty t172 x20_1) 0), t179⟩ : S53)]) x5_1 t193 t172 (t172.length : Int) (wrap64 (x20_1 + 1))) else (none))) = some (r1, r2) := by rw [if_pos rfl] at H; exact H
                     clear H
                     have H := H1
                     clear H1
                     replace H := Option.bind_eq_some_iff.mp H
                     obtain ⟨t193, A510, H⟩ := H
                     replace H : (if x4_1.length < 8796093022208 then (spec_l7Read.l0 kj37 (x4_1 ++ [(⟨(bt (rdOf ByteArray.empty t172 x20_1) 0), t179⟩ : S53)]) x5_1 t193 t172 (t172.length : Int) (wrap64 (x20_1 + 1))) else (none)) = some (r1, r2) := H
                     have A51 := Az.mk A510
                     clear A510
                     by_cases c52 : x4_1.length < 8796093022208
                     ·rw [if_pos c52] at H
                      have LMc52 := Az.mk c52
                      clear c52
                      obtain ⟨y196, hy196⟩ : ∃ y_ : List (S53), y_ = (x4_1 ++ [(⟨(bt (rdOf ByteArray.empty t172 x20_1) 0), t179⟩ : S53)]) := ⟨_, rfl⟩
                      replace H : (spec_l7Read.l0 kj37 y196 x5_1 t193 t172 (t172.length : Int) (wrap64 (x20_1 + 1))) = some (r1, r2) := by first | (rw [hy196]; with_reducible exact H) | (have H2_ := (Option.bind_some _ _).symm.trans H; rw [hy196]; with_reducible exact H2_) | (have H2_ := (Option.bind_some _ _).symm.trans H; with_reducible exact H2_) | with_reducible exact H | (rw [hy196]; exact H) | exact H
                      have Ny196 := Az.mk hy196
                      clear hy196
                      have H' := Az.mk H
                      clear H
                      have hcz53_0 : wc.cell? ⟨gb181, 0, none⟩ = some (.int .u8 (bt (rdOf ByteArray.empty t172 x20_1) 0)) := (blk_cell BK181.out 0).trans rfl
                      have hcz53_1 : wc.cell? ⟨gb181, 1, none⟩ = some (.int .i64 t179) := (blk_cell BK181.out 1).trans rfl
                      have hfz53_0 := blk_frozen BK181.out 0
                      have hfz53_1 := blk_frozen BK181.out 1
                      obtain ⟨Ao54, co54, eo54⟩ := Kd.R_slice HO_6.out
                      subst eo54
                      go_wp2_with (first | (go_at_call 30; (with_reducible refine (spec_l7In.calls kj37 _ _ x6_1 t179 true _ ?side1 ?side2 A49.out).mono ?_); (case side1 => repeat (first | exact (Kd.R_reads' HO_6.out).2.2 | (with_reducible refine Kd.C_alloc ?_ _) | (with_reducible refine Kd.C_drewN ?_ _) | (with_reducible refine Kd.C_drew ?_))); (case side2 => exact (Kd.R_reads' HO_6.out).2.1); rintro e w' ⟨rfl, ⟨nd, rfl⟩⟩) | ((with_reducible refine gate_callee (f := 24) rfl ?_); refine goesL_ (some 82) rfl rfl Tryd.func24 (by kernel_rfl) rfl #[.slice Ao54 x6_1.length co54, .int .i64 t179] rfl (by (try simp only [List.map_toArray, List.map_cons, List.map_nil]); first | done | rfl | (simp only [List.length_drop, List.length_take]; rfl)) ?_; (with_reducible refine (spec_l7Without.calls kj37 _ _ x6_1 t179 t193 _ ?side1 ?side2 A51.out).mono ?_); (case side1 => repeat (first | exact (Kd.R_reads' HO_6.out).2.2 | (with_reducible refine Kd.C_alloc ?_ _) | (with_reducible refine Kd.C_drewN ?_ _) | (with_reducible refine Kd.C_drew ?_))); (case side2 => exact (Kd.R_reads' HO_6.out).2.1); rintro e w55 ⟨v194, rfl, ho0, hb⟩; refine ⟨_, rfl, ?_⟩; have n0_ := Az.mk (Kd.Rb (by (with_reducible repeat first|apply Kd.Ra|apply Kd.Rn|apply Kd.Rw); exact HO_4.out) hb); have n1_ := Az.mk (Kd.R_elder' (by (with_reducible repeat first|apply Kd.Ra|apply Kd.Rn|apply Kd.Rw); exact HO_6.out) (Kd.R_base ho0) hb); have n2_ := Az.mk (Kd.Rb (by (with_reducible repeat first|apply Kd.Ra|apply Kd.Rn|apply Kd.Rw); exact HO_18.out) hb); have n3_ := Az.mk (Kd.R_lower (Kd.R_new' ho0 (Kd.R_lt (by (with_reducible repeat first|apply Kd.Ra|apply Kd.Rn|apply Kd.Rw); exact HO_6.out))) (bZ (by repeat (first | (with_reducible first|exact HB.out|apply bA|apply bN|apply bD | refine below_set ?_ GE181.out) | exact HB.out)))); have n4_ := Az.mk (blk_below (g := gb181) (o := .cells #[.int .u8 (bt (rdOf ByteArray.empty t172 x20_1) 0), .int .i64 t179] 53 (0, 0)) (by (with_reducible repeat first|refine blN ?_ _|refine bl1 ?_|refine blA ?_ _); exact BK181.out) hb); have n5_ := Az.mk (bS (by repeat (first | (with_reducible first|exact HB.out|apply bA|apply bN|apply bD | refine below_set ?_ GE181.out) | exact HB.out)) hb); clear HO_4; clear HO_6; clear HO_18; clear BK181; clear HB; have HO_4 := n0_; have HO_6 := n1_; have HO_18 := n2_; have HO195 := n3_; have BK181 := n4_; have HB := n5_; clear n0_ n1_ n2_ n3_ n4_ n5_; (try clear hb); (try clear hb2); (try clear hk); (try clear hi); (try clear ho0); have hcz56_0 : w55.cell? ⟨gb181, 0, none⟩ = some (.int .u8 (bt (rdOf ByteArray.empty t172 x20_1) 0)) := (blk_cell BK181.out 0).trans rfl; have hcz56_1 : w55.cell? ⟨gb181, 1, none⟩ = some (.int .i64 t179) := (blk_cell BK181.out 1).trans rfl; have hfz56_0 := blk_frozen BK181.out 0; have hfz56_1 := blk_frozen BK181.out 1) | ((with_reducible refine gate_builtin (b := .append) (xs := #[.tmp 83, .tmp 85]) rfl ?_); (try (refine gate_guard (by rfl) ?_; dsimp only)); at_builtin; refine Kd.R_append k53 (w0 := w) w.heap.size rfl (.tmp 83) (.tmp 85) 45 53 (.agg #[(.int .u8 0), (.int .i64 0)]) 16 rfl Tryd.underlying45 info53 rfl (by decide) (by omega) u4 x4_1 (⟨(bt (rdOf ByteArray.empty t172 x20_1) 0), t179⟩ : S53) [.int .u8 (bt (rdOf ByteArray.empty t172 x20_1) 0), .int .i64 t179] (fun k_ => k_ ≠ gb181) (fun _ => False) rfl rfl ?aP (fun _ hk => hk.elim) ?aF ?aO ?aB ?aS ?aL ?_; (case aP => exact k53_mkM _ _ _ (⟨(bt (rdOf ByteArray.empty t172 x20_1) 0), t179⟩ : S53)); (case aB => exact (by repeat (first | (with_reducible first|exact HB.out|apply bA|apply bN|apply bD | refine below_set ?_ GE181.out) | exact HB.out))); (case aF => exact (fun k_ hk => Kd.freshB (g := gb181) (o := .cells #[.int .u8 (bt (rdOf ByteArray.empty t172 x20_1) 0), .int .i64 t179] 53 (0, 0)) (by (with_reducible repeat first|refine blN ?_ _|refine bl1 ?_|refine blA ?_ _); exact BK181.out) k_ hk)); (case aO => exact (by (with_reducible repeat first|apply Kd.Ra|apply Kd.Rn|apply Kd.Rw); exact HO_4.out)); (case aS => exact (bZ (by repeat (first | (with_reducible first|exact HB.out|apply bA|apply bN|apply bD | refine below_set ?_ GE181.out) | exact HB.out)))); (case aL => have := LMc52.out; omega); intro v197 w57 ho hb hg hat; rw [← Ny196.out] at ho; have n0_ := Az.mk (Kd.R_over' (by (with_reducible repeat first|apply Kd.Ra|apply Kd.Rn|apply Kd.Rw); exact HO_6.out) (Kd.R_typed (by (with_reducible repeat first|apply Kd.Ra|apply Kd.Rn|apply Kd.Rw); exact HO_4.out)) (by decide) hg); have n1_ := Az.mk (Kd.R_over' (by (with_reducible repeat first|apply Kd.Ra|apply Kd.Rn|apply Kd.Rw); exact HO_18.out) (Kd.R_typed (by (with_reducible repeat first|apply Kd.Ra|apply Kd.Rn|apply Kd.Rw); exact HO_4.out)) (by decide) hg); have n2_ := Az.mk (blk_grown (g := gb181) (o := .cells #[.int .u8 (bt (rdOf ByteArray.empty t172 x20_1) 0), .int .i64 t179] 53 (0, 0)) (by (with_reducible repeat first|refine blN ?_ _|refine bl1 ?_|refine blA ?_ _); exact BK181.out) hg (Kd.R_away HO_4.out (fun _ hk => hk))); have n3_ := Az.mk (Kd.R_over' (by (with_reducible repeat first|apply Kd.Ra|apply Kd.Rn|apply Kd.Rw); exact HO195.out) (Kd.R_typed (by (with_reducible repeat first|apply Kd.Ra|apply Kd.Rn|apply Kd.Rw); exact HO_4.out)) (by decide) hg); have n4_ := Az.mk (hb); have n5_ := Az.mk (ho); clear HO_6; clear HO_18; clear BK181; clear HO195; clear HB; clear HO_4; have HO_6 := n0_; have HO_18 := n1_; have BK181 := n2_; have HO195 := n3_; have HB := n4_; have HO198 := n5_; clear n0_ n1_ n2_ n3_ n4_ n5_; clear ho hb hg hat))
                      go_roundg kj37
                      case measure => have := HK1.out; have := HJ14.out; have := HJ25.out; have := HJ37.out; omega
                      case rel => exact ⟨(y196), (x5_1), (t193), (wrap64 (x20_1 + 1)), (by first | rfl | (simp; done) | (simp [*]; done)), (by first | rfl | (simp; done) | (simp [*]; done)), H', ⟨by have := HK1.out; have := HJ14.out; have := HJ25.out; have := HJ37.out; omega⟩, ⟨by (with_reducible repeat first|apply Kd.Ra|apply Kd.Rn|apply Kd.Rw); exact Kd.R_mono HO198.out (fun _ hk => trivial)⟩, ⟨by (with_reducible repeat first|apply Kd.Ra|apply Kd.Rn|apply Kd.Rw); exact Kd.R_mono HO195.out (fun _ hk => trivial)⟩, ⟨by (with_reducible repeat first|apply Kd.Ra|apply Kd.Rn|apply Kd.Rw); exact HO_18.out⟩, ⟨by repeat (first | (with_reducible first|exact HB.out|apply bA|apply bN|apply bD | refine below_set ?_ GE181.out) | exact HB.out)⟩⟩
                     ·rw [if_neg c52] at H
                      exact absurd H (by simp)
                    ·replace c50 := Bool.eq_false_iff.mpr c50
                     subst c50
                     have H1 : (some ((([] : List (S53))), false)) = some (r1, r2) := by rw [if_neg (show ¬ (false = true) by decide)] at H; exact H
                     clear H
                     have H := H1
                     clear H1
                     obtain ⟨y199, hy199⟩ : ∃ y_ : List (S53), y_ = (([] : List (S53))) := ⟨_, rfl⟩
                     replace H : (some (y199, false)) = some (r1, r2) := by first | (rw [hy199]; with_reducible exact H) | (have H2_ := (Option.bind_some _ _).symm.trans H; rw [hy199]; with_reducible exact H2_) | (have H2_ := (Option.bind_some _ _).symm.trans H; with_reducible exact H2_) | with_reducible exact H | (rw [hy199]; exact H) | exact H
                     have Ny199 := Az.mk hy199
                     clear hy199
                     simp only [Option.some.injEq, Prod.mk.injEq] at H
                     obtain ⟨rfl, rfl⟩ := H
                     have hcz58_0 : wc.cell? ⟨gb181, 0, none⟩ = some (.int .u8 (bt (rdOf ByteArray.empty t172 x20_1) 0)) := (blk_cell BK181.out 0).trans rfl
                     have hcz58_1 : wc.cell? ⟨gb181, 1, none⟩ = some (.int .i64 t179) := (blk_cell BK181.out 1).trans rfl
                     have hfz58_0 := blk_frozen BK181.out 0
                     have hfz58_1 := blk_frozen BK181.out 1
                     obtain ⟨Ao59, co59, eo59⟩ := Kd.R_slice HO_6.out
                     subst eo59
                     go_wp2_with (first | (go_at_call 30; (with_reducible refine (spec_l7In.calls kj37 _ _ x6_1 t179 false _ ?side1 ?side2 A49.out).mono ?_); (case side1 => repeat (first | exact (Kd.R_reads' HO_6.out).2.2 | (with_reducible refine Kd.C_alloc ?_ _) | (with_reducible refine Kd.C_drewN ?_ _) | (with_reducible refine Kd.C_drew ?_))); (case side2 => exact (Kd.R_reads' HO_6.out).2.1); rintro e w' ⟨rfl, ⟨nd, rfl⟩⟩) | ((with_reducible refine gate_dst (N := 42) rfl ?_); (try (refine gate_guard (by rfl) ?_; dsimp only)); refine Kd.R_lit k53 _ 53 ?hg (N := 42) ?hd (xs := ([] : List (S53))) (inner := []) (ok := fun _ => True) (okp := fun _ => True) ?hr ?hp (fun _ hk => hk) trivial (Below.refl _ _) (Nat.le_refl _) (by simp) ?_; (case hd => rfl); (case hg => rfl); (case hr => first | (go_simp; done) | (go_simp; rfl)); (case hp => exact (Reps.none _ _)); intro v200 w60 ho61 hb hg_ hnew_; clear hg_ hnew_; (first | rw [← Ny199.out] at ho61 | (simp only [Int.reduceToNat] at ho61; rw [← Ny199.out] at ho61)); have n0_ := Az.mk (Kd.R_elder' (by (with_reducible repeat first|apply Kd.Ra|apply Kd.Rn|apply Kd.Rw); exact HO_4.out) (Kd.R_base ho61) hb); have n1_ := Az.mk (Kd.Rb (by (with_reducible repeat first|apply Kd.Ra|apply Kd.Rn|apply Kd.Rw); exact HO_6.out) hb); have n2_ := Az.mk (Kd.Rb (by (with_reducible repeat first|apply Kd.Ra|apply Kd.Rn|apply Kd.Rw); exact HO_18.out) hb); have n3_ := Az.mk (Kd.R_lower (Kd.R_newB (Kd.R_new' ho61 (Kd.R_lt (by (with_reducible repeat first|apply Kd.Ra|apply Kd.Rn|apply Kd.Rw); exact HO_4.out))) (g := gb181) (o := .cells #[.int .u8 (bt (rdOf ByteArray.empty t172 x20_1) 0), .int .i64 t179] 53 (0, 0)) (by (with_reducible repeat first|refine blN ?_ _|refine bl1 ?_|refine blA ?_ _); exact BK181.out)) (bZ (by repeat (first | (with_reducible first|exact HB.out|apply bA|apply bN|apply bD | refine below_set ?_ GE181.out) | exact HB.out)))); have n4_ := Az.mk (blk_below (g := gb181) (o := .cells #[.int .u8 (bt (rdOf ByteArray.empty t172 x20_1) 0), .int .i64 t179] 53 (0, 0)) (by (with_reducible repeat first|refine blN ?_ _|refine bl1 ?_|refine blA ?_ _); exact BK181.out) hb); have n5_ := Az.mk (bS (by repeat (first | (with_reducible first|exact HB.out|apply bA|apply bN|apply bD | refine below_set ?_ GE181.out) | exact HB.out)) hb); clear HO_4; clear HO_6; clear HO_18; clear BK181; clear HB; have HO_4 := n0_; have HO_6 := n1_; have HO_18 := n2_; have HO201 := n3_; have BK181 := n4_; have HB := n5_; clear n0_ n1_ n2_ n3_ n4_ n5_; clear hb ho61))
                     go_ret2
                     exact ⟨_, by first | rfl | (simp [errW_none, errW_some] <;> rfl) | (simp [*, errW_none, errW_some] <;> rfl), by (with_reducible repeat first|apply Kd.Ra|apply Kd.Rn|apply Kd.Rw); exact Kd.R_mono HO201.out (fun _ hk => trivial), by repeat (first | (with_reducible first|exact HB.out|apply bA|apply bN|apply bD | refine below_set ?_ GE181.out) | exact HB.out)⟩
                   ·rw [if_neg c48] at H
                    have c48b0 : ((bt (rdOf ByteArray.empty t172 x20_1) 0) == 45) = false := beq_eq_false_iff_ne.mpr c48
                    have c48b1 : ((bt (rdOf ByteArray.empty t172 x20_1) 0) != 45) = true := bne_iff_ne.mpr c48
                    obtain ⟨y202, hy202⟩ : ∃ y_ : List (S53), y_ = (([] : List (S53))) := ⟨_, rfl⟩
                    replace H : (some (y202, false)) = some (r1, r2) := by first | (rw [hy202]; with_reducible exact H) | (have H2_ := (Option.bind_some _ _).symm.trans H; rw [hy202]; with_reducible exact H2_) | (have H2_ := (Option.bind_some _ _).symm.trans H; with_reducible exact H2_) | with_reducible exact H | (rw [hy202]; exact H) | exact H
                    have Ny202 := Az.mk hy202
                    clear hy202
                    simp only [Option.some.injEq, Prod.mk.injEq] at H
                    obtain ⟨rfl, rfl⟩ := H
                    have hcz62_0 : wc.cell? ⟨gb181, 0, none⟩ = some (.int .u8 (bt (rdOf ByteArray.empty t172 x20_1) 0)) := (blk_cell BK181.out 0).trans rfl
                    have hcz62_1 : wc.cell? ⟨gb181, 1, none⟩ = some (.int .i64 t179) := (blk_cell BK181.out 1).trans rfl
                    have hfz62_0 := blk_frozen BK181.out 0
                    have hfz62_1 := blk_frozen BK181.out 1
                    go_wp2_with (first | ((with_reducible refine gate_dst (N := 42) rfl ?_); (try (refine gate_guard (by rfl) ?_; dsimp only)); refine Kd.R_lit k53 _ 53 ?hg (N := 42) ?hd (xs := ([] : List (S53))) (inner := []) (ok := fun _ => True) (okp := fun _ => True) ?hr ?hp (fun _ hk => hk) trivial (Below.refl _ _) (Nat.le_refl _) (by simp) ?_; (case hd => rfl); (case hg => rfl); (case hr => first | (go_simp; done) | (go_simp; rfl)); (case hp => exact (Reps.none _ _)); intro v203 w63 ho64 hb hg_ hnew_; clear hg_ hnew_; (first | rw [← Ny202.out] at ho64 | (simp only [Int.reduceToNat] at ho64; rw [← Ny202.out] at ho64)); have n0_ := Az.mk (Kd.R_elder' (by (with_reducible repeat first|apply Kd.Ra|apply Kd.Rn|apply Kd.Rw); exact HO_4.out) (Kd.R_base ho64) hb); have n1_ := Az.mk (Kd.Rb (by (with_reducible repeat first|apply Kd.Ra|apply Kd.Rn|apply Kd.Rw); exact HO_6.out) hb); have n2_ := Az.mk (Kd.Rb (by (with_reducible repeat first|apply Kd.Ra|apply Kd.Rn|apply Kd.Rw); exact HO_18.out) hb); have n3_ := Az.mk (Kd.R_lower (Kd.R_newB (Kd.R_new' ho64 (Kd.R_lt (by (with_reducible repeat first|apply Kd.Ra|apply Kd.Rn|apply Kd.Rw); exact HO_4.out))) (g := gb181) (o := .cells #[.int .u8 (bt (rdOf ByteArray.empty t172 x20_1) 0), .int .i64 t179] 53 (0, 0)) (by (with_reducible repeat first|refine blN ?_ _|refine bl1 ?_|refine blA ?_ _); exact BK181.out)) (bZ (by repeat (first | (with_reducible first|exact HB.out|apply bA|apply bN|apply bD | refine below_set ?_ GE181.out) | exact HB.out)))); have n4_ := Az.mk (blk_below (g := gb181) (o := .cells #[.int .u8 (bt (rdOf ByteArray.empty t172 x20_1) 0), .int .i64 t179] 53 (0, 0)) (by (with_reducible repeat first|refine blN ?_ _|refine bl1 ?_|refine blA ?_ _); exact BK181.out) hb); have n5_ := Az.mk (bS (by repeat (first | (with_reducible first|exact HB.out|apply bA|apply bN|apply bD | refine below_set ?_ GE181.out) | exact HB.out)) hb); clear HO_4; clear HO_6; clear HO_18; clear BK181; clear HB; have HO_4 := n0_; have HO_6 := n1_; have HO_18 := n2_; have HO204 := n3_; have BK181 := n4_; have HB := n5_; clear n0_ n1_ n2_ n3_ n4_ n5_; clear hb ho64))
                    go_ret2
                    exact ⟨_, by first | rfl | (simp [errW_none, errW_some] <;> rfl) | (simp [*, errW_none, errW_some] <;> rfl), by (with_reducible repeat first|apply Kd.Ra|apply Kd.Rn|apply Kd.Rw); exact Kd.R_mono HO204.out (fun _ hk => trivial), by repeat (first | (with_reducible first|exact HB.out|apply bA|apply bN|apply bD | refine below_set ?_ GE181.out) | exact HB.out)⟩
            ·replace c25 := Bool.eq_false_iff.mpr c25
             subst c25
             have H1 : (some ((([] : List (S53))), false)) = some (r1, r2) := by rw [if_neg (show ¬ (false = true) by decide)] at H; exact H
             clear H
             have H := H1
             clear H1
             obtain ⟨y205, hy205⟩ : ∃ y_ : List (S53), y_ = (([] : List (S53))) := ⟨_, rfl⟩
             replace H : (some (y205, false)) = some (r1, r2) := by first | (rw [hy205]; with_reducible exact H) | (have H2_ := (Option.bind_some _ _).symm.trans H; rw [hy205]; with_reducible exact H2_) | (have H2_ := (Option.bind_some _ _).symm.trans H; with_reducible exact H2_) | with_reducible exact H | (rw [hy205]; exact H) | exact H
             have Ny205 := Az.mk hy205
             clear hy205
             simp only [Option.some.injEq, Prod.mk.injEq] at H
             obtain ⟨rfl, rfl⟩ := H
             go_wp2_with (first | ((with_reducible refine gate_callee (f := 29) rfl ?_); refine goesL_ (some 35) rfl rfl Tryd.func29 (by kernel_rfl) rfl #[.string ((rdOf ByteArray.empty t172 x20_1).extract 1 (rdOf ByteArray.empty t172 x20_1).size)] rfl (by (try simp only [List.map_toArray, List.map_cons, List.map_nil]); first | done | rfl | (simp only [List.length_drop, List.length_take]; rfl)) ?_; (with_reducible refine (spec_l13Num.calls kj14 ((rdOf ByteArray.empty t172 x20_1).extract 1 (rdOf ByteArray.empty t172 x20_1).size) t179 false _ A22.out).mono ?_); rintro e w' ⟨rfl, ⟨nd, rfl⟩⟩; refine ⟨_, rfl, ?_⟩; (try (rw [drewN_self wc]; generalize hq_ : World.drewN wc _ = wc; have n0_ : Az (Kd.R Kd.string 9 wc w.heap.size (fun _ => True) (.slice (some ad175) t172.length co11) t172) := ⟨by rw [← hq_]; exact (by (with_reducible repeat first|apply Kd.Ra|apply Kd.Rn|apply Kd.Rw); exact HO_18.out)⟩; have n1_ : Az (Kd.R k53 53 wc w.heap.size (fun _ => True) u4 x4_1) := ⟨by rw [← hq_]; exact (by (with_reducible repeat first|apply Kd.Ra|apply Kd.Rn|apply Kd.Rw); exact HO_4.out)⟩; have n2_ : Az (Kd.R (Kd.int .i64) 3 wc w.heap.size (fun _ => True) u6 x6_1) := ⟨by rw [← hq_]; exact (by (with_reducible repeat first|apply Kd.Ra|apply Kd.Rn|apply Kd.Rw); exact HO_6.out)⟩; have n3_ : Az (Below w.heap.size w wc) := ⟨by rw [← hq_]; exact (by repeat first|exact HB.out|apply bA|apply bN|apply bD)⟩; clear HO_18 HO_4 HO_6 HB hq_; have HO_18 := n0_; have HO_4 := n1_; have HO_6 := n2_; have HB := n3_; clear n0_ n1_ n2_ n3_)); have p24 : 0 ≤ (0 : Int) := (by omega); have q24 : 0 < (rdOf ByteArray.empty t172 x20_1).size := (by have : (0 : Int) < ((rdOf ByteArray.empty t172 x20_1).size : Int) := of_decide_eq_true (by first|(with_reducible assumption)|assumption); omega); have hx24 : ∀ h : 0 < (rdOf ByteArray.empty t172 x20_1).size, (((rdOf ByteArray.empty t172 x20_1)[0]'h).toNat : Int) = bt (rdOf ByteArray.empty t172 x20_1) 0 := bt_at (rdOf ByteArray.empty t172 x20_1) 0; clear p24; have qi24 : (0 < ((rdOf ByteArray.empty t172 x20_1).size : Int)) = True := eq_true (of_decide_eq_true (by first|(with_reducible assumption)|assumption)); replace q24 := eq_true q24) | ((with_reducible refine gate_dst (N := 11) rfl ?_); (try (refine gate_guard (by rfl) ?_; dsimp only)); refine box_event ?hg (N := 11) ?hd (cs := #[.int .u8 0, .int .i64 0]) (t := 53) ?hr ?_; (case hd => rfl); (case hg => rfl); (case hr => first | (go_simp; done) | (go_simp; rfl)); intro gb181 hg w65 hbox hb; have n0_ := Az.mk (Kd.Rb (Kd.R_elderB (by (with_reducible repeat first|apply Kd.Ra|apply Kd.Rn|apply Kd.Rw); exact HO_4.out) gb181 (Nat.le_of_eq hg.symm)) hb); have n1_ := Az.mk (Kd.Rb (by (with_reducible repeat first|apply Kd.Ra|apply Kd.Rn|apply Kd.Rw); exact HO_6.out) hb); have n2_ := Az.mk (Kd.Rb (by (with_reducible repeat first|apply Kd.Ra|apply Kd.Rn|apply Kd.Rw); exact HO_18.out) hb); have n3_ := Az.mk (bS (by repeat first|exact HB.out|apply bA|apply bN|apply bD) hb); have n4_ := Az.mk (hbox); have n5_ := Az.mk ((by rw [hg]; exact (bZ (by repeat first|exact HB.out|apply bA|apply bN|apply bD)) : w.heap.size ≤ gb181)); have n6_ := Az.mk ((by rw [hg]; exact (bZ (by repeat first|exact HB.out|apply bA|apply bN|apply bD)) : w.heap.size ≤ gb181)); clear HO_4; clear HO_6; clear HO_18; clear HB; have HO_4 := n0_; have HO_6 := n1_; have HO_18 := n2_; have HB := n3_; have BK181 := n4_; have GW181 := n5_; have GE181 := n6_; clear n0_ n1_ n2_ n3_ n4_ n5_ n6_; clear hb hbox hg; have hcz66_0 : w65.cell? ⟨gb181, 0, none⟩ = some (.int .u8 0) := (blk_cell BK181.out 0).trans rfl; have hcz66_1 : w65.cell? ⟨gb181, 1, none⟩ = some (.int .i64 0) := (blk_cell BK181.out 1).trans rfl; have hfz66_0 := blk_frozen BK181.out 0; have hfz66_1 := blk_frozen BK181.out 1) | ((with_reducible refine gate_dst (N := 46) rfl ?_); (try (refine gate_guard (by rfl) ?_; dsimp only)); refine Kd.R_lit k53 _ 53 ?hg (N := 46) ?hd (xs := ([] : List (S53))) (inner := []) (ok := fun _ => True) (okp := fun _ => True) ?hr ?hp (fun _ hk => hk) trivial (Below.refl _ _) (Nat.le_refl _) (by simp) ?_; (case hd => rfl); (case hg => rfl); (case hr => first | (go_simp; done) | (go_simp; rfl)); (case hp => exact (Reps.none _ _)); intro v206 w67 ho68 hb hg_ hnew_; clear hg_ hnew_; (first | rw [← Ny205.out] at ho68 | (simp only [Int.reduceToNat] at ho68; rw [← Ny205.out] at ho68)); have n0_ := Az.mk (Kd.R_elder' (by (with_reducible repeat first|apply Kd.Ra|apply Kd.Rn|apply Kd.Rw); exact (Kd.R_mono (Kd.R_far (p := ⟨gb181, 1, none⟩) (Kd.R_far (p := ⟨gb181, 0, none⟩) (Kd.R_mono HO_4.out (fun k_ hk => (⟨hk, hk.2⟩ : _ ∧ k_ ≠ gb181))) (fun _ hk => hk.2) (.int .u8 (bt (rdOf ByteArray.empty t172 x20_1) 0))) (fun _ hk => hk.2) (.int .i64 t179)) (fun _ h_ => h_.1))) (Kd.R_base ho68) hb); have n1_ := Az.mk (Kd.Rb (by (with_reducible repeat first|apply Kd.Ra|apply Kd.Rn|apply Kd.Rw); exact (Kd.R_mono (Kd.R_far (p := ⟨gb181, 1, none⟩) (Kd.R_far (p := ⟨gb181, 0, none⟩) (Kd.R_types HO_6.out BK181.out (by decide)) (fun _ hk => hk.2) (.int .u8 (bt (rdOf ByteArray.empty t172 x20_1) 0))) (fun _ hk => hk.2) (.int .i64 t179)) (fun _ h_ => h_.1))) hb); have n2_ := Az.mk (Kd.Rb (by (with_reducible repeat first|apply Kd.Ra|apply Kd.Rn|apply Kd.Rw); exact (Kd.R_mono (Kd.R_far (p := ⟨gb181, 1, none⟩) (Kd.R_far (p := ⟨gb181, 0, none⟩) (Kd.R_types HO_18.out BK181.out (by decide)) (fun _ hk => hk.2) (.int .u8 (bt (rdOf ByteArray.empty t172 x20_1) 0))) (fun _ hk => hk.2) (.int .i64 t179)) (fun _ h_ => h_.1))) hb); have n3_ := Az.mk (Kd.R_lower (Kd.R_newB (Kd.R_new' ho68 (Kd.R_lt (by (with_reducible repeat first|apply Kd.Ra|apply Kd.Rn|apply Kd.Rw); exact (Kd.R_mono (Kd.R_far (p := ⟨gb181, 1, none⟩) (Kd.R_far (p := ⟨gb181, 0, none⟩) (Kd.R_mono HO_4.out (fun k_ hk => (⟨hk, hk.2⟩ : _ ∧ k_ ≠ gb181))) (fun _ hk => hk.2) (.int .u8 (bt (rdOf ByteArray.empty t172 x20_1) 0))) (fun _ hk => hk.2) (.int .i64 t179)) (fun _ h_ => h_.1))))) (g := gb181) (o := .cells #[.int .u8 (bt (rdOf ByteArray.empty t172 x20_1) 0), .int .i64 t179] 53 (0, 0)) (by (with_reducible repeat first|refine blN ?_ _|refine bl1 ?_|refine blA ?_ _); refine blk_put (cs := #[.int .u8 (bt (rdOf ByteArray.empty t172 x20_1) 0), .int .i64 0]) ?_ 1 _ rfl; (with_reducible repeat first|refine blN ?_ _|refine bl1 ?_|refine blA ?_ _); refine blk_put (cs := #[.int .u8 0, .int .i64 0]) ?_ 0 _ rfl; (with_reducible repeat first|refine blN ?_ _|refine bl1 ?_|refine blA ?_ _); exact BK181.out)) (bZ (by repeat (first | (with_reducible first|exact HB.out|apply bA|apply bN|apply bD | refine below_set ?_ GE181.out) | exact HB.out)))); have n4_ := Az.mk (blk_below (g := gb181) (o := .cells #[.int .u8 (bt (rdOf ByteArray.empty t172 x20_1) 0), .int .i64 t179] 53 (0, 0)) (by (with_reducible repeat first|refine blN ?_ _|refine bl1 ?_|refine blA ?_ _); refine blk_put (cs := #[.int .u8 (bt (rdOf ByteArray.empty t172 x20_1) 0), .int .i64 0]) ?_ 1 _ rfl; (with_reducible repeat first|refine blN ?_ _|refine bl1 ?_|refine blA ?_ _); refine blk_put (cs := #[.int .u8 0, .int .i64 0]) ?_ 0 _ rfl; (with_reducible repeat first|refine blN ?_ _|refine bl1 ?_|refine blA ?_ _); exact BK181.out) hb); have n5_ := Az.mk (bS (by repeat (first | (with_reducible first|exact HB.out|apply bA|apply bN|apply bD | refine below_set ?_ GE181.out) | exact HB.out)) hb); clear HO_4; clear HO_6; clear HO_18; clear BK181; clear HB; have HO_4 := n0_; have HO_6 := n1_; have HO_18 := n2_; have HO207 := n3_; have BK181 := n4_; have HB := n5_; clear n0_ n1_ n2_ n3_ n4_ n5_; clear hb ho68))
             go_ret2
             exact ⟨_, by first | rfl | (simp [errW_none, errW_some] <;> rfl) | (simp [*, errW_none, errW_some] <;> rfl), by (with_reducible repeat first|apply Kd.Ra|apply Kd.Rn|apply Kd.Rw); exact Kd.R_mono HO207.out (fun _ hk => trivial), by repeat (first | (with_reducible first|exact HB.out|apply bA|apply bN|apply bD | refine below_set ?_ GE181.out) | exact HB.out)⟩
           ·rw [if_neg c23] at H
            exact absurd H (by simp)
          ·rw [if_neg c21] at H
           exact absurd H (by simp)
      ·rw [if_neg c14] at H
       exact absurd H (by simp)
     ·rw [if_neg c13] at H
      exact absurd H (by simp)
    ·rw [if_neg c12] at H
     have c12b0 : decide (x20_1 < (t172.length : Int)) = false := decide_eq_false c12
     clear c12
     simp only [Option.some.injEq, Prod.mk.injEq] at H
     obtain ⟨rfl, rfl⟩ := H
     go_wp2
     go_ret2
     exact ⟨_, by first | rfl | (simp [errW_none, errW_some] <;> rfl) | (simp [*, errW_none, errW_some] <;> rfl), by (with_reducible repeat first|apply Kd.Ra|apply Kd.Rn|apply Kd.Rw); exact HO_4.out, by repeat (first | (with_reducible first|exact HB.out|apply bA|apply bN|apply bD) | exact HB.out)⟩
end Go.Proofs.YtojhdfdhfajjjaaDoor.Pr
namespace Go.Proofs.YtojhdfdhfajjjaaDoor.Pr
open Go.RowKit Go.Proofs.YtojhdfdhfajjjaaDoorW.PrintWords Go.Proofs.YtojhdfdhfajjjaaDoorW.PrintLast Go.Proofs.YtojhdfdhfajjjaaDoorW.PrintMore
attribute [local go_sem] max2_int min2_int max_two min_two max_three min_three max_four min_four   -- for this text's walks alone
set_option linter.unusedVariables false
set_option linter.unusedSimpArgs false
def spec_l7Lives.l0 : Nat → List (S42) → List (S53) → Int → Int → Option ((List (S42)))
 | 0, _, _, _, _ => none
 | k + 1, x3, x7, x8, x9 => if x9 < x8 then (if 0 ≤ x9 then (if x9 < (x7.length : Int) then (if ((rd_T53 x7 x9).f0) = 43 then (if x3.length < 5864062014805 then (spec_l7Lives.l0 k (x3 ++ [(⟨x9, x9, (-1)⟩ : S42)]) x7 x8 (wrap64 (x9 + 1))) else (none)) else (if ((rd_T53 x7 x9).f0) = 46 then (if 0 ≤ (wrap64 (((rd_T53 x7 x9).f1) - 1)) then (if (wrap64 (((rd_T53 x7 x9).f1) - 1)) < (x3.length : Int) then (spec_l7Lives.l0 k (x3.set ((wrap64 (((rd_T53 x7 x9).f1) - 1)) : Int).toNat (⟨(rd_T42 x3 (wrap64 (((rd_T53 x7 x9).f1) - 1))).f0, x9, (rd_T42 x3 (wrap64 (((rd_T53 x7 x9).f1) - 1))).f2⟩ : S42)) x7 x8 (wrap64 (x9 + 1))) else (none)) else (none)) else (if ((rd_T53 x7 x9).f0) = 45 then (if 0 ≤ (wrap64 (((rd_T53 x7 x9).f1) - 1)) then (if (wrap64 (((rd_T53 x7 x9).f1) - 1)) < (x3.length : Int) then (spec_l7Lives.l0 k (x3.set ((wrap64 (((rd_T53 x7 x9).f1) - 1)) : Int).toNat (⟨(rd_T42 x3 (wrap64 (((rd_T53 x7 x9).f1) - 1))).f0, (rd_T42 x3 (wrap64 (((rd_T53 x7 x9).f1) - 1))).f1, x9⟩ : S42)) x7 x8 (wrap64 (x9 + 1))) else (none)) else (none)) else (spec_l7Lives.l0 k x3 x7 x8 (wrap64 (x9 + 1)))))) else (none)) else (none)) else (some x3)
def spec_l7Lives.f (k : Nat) (l0 : List (S53)) : Option ((List (S42))) := spec_l7Lives.l0 k (([] : List (S42))) l0 (l0.length : Int) 0
set_option maxHeartbeats 8000000 in
set_option maxRecDepth 100000 in
theorem spec_l7Lives.calls (k : Nat) (A0 : Option Addr) (c0 : Nat) (l0 : List (S53)) (r : List (S42)) (w : World) (hr0 : Kd.C k53 w A0 l0.length l0) (hc0 : l0.length ≤ c0) (h : spec_l7Lives.f k l0 = some r) :
  Calls Tryd.prog 20 #[.slice A0 l0.length c0] w fun e w' => ∃ v0_ : Value, e = .returned (v0_) ∧ Kd.R k42 42 w' w.heap.size (fun _ => True) v0_ r ∧ Below w.heap.size w w' := by
 have hu53 := Tryd.underlying53
 have hu42 := Tryd.underlying42
 have HR0 := Az.mk hr0
 have HC0 := Az.mk hc0
 clear hr0 hc0
 have HB := Az.mk (Below.refl w.heap.size w)
 have H : (spec_l7Lives.l0 k (([] : List (S42))) l0 (l0.length : Int) 0) = some r := h
 clear h
 obtain ⟨y208, hy208⟩ : ∃ y_ : List (S42), y_ = (([] : List (S42))) := ⟨_, rfl⟩
 replace H : (spec_l7Lives.l0 k y208 l0 (l0.length : Int) 0) = some r := by first | (rw [hy208]; with_reducible exact H) | (have H2_ := (Option.bind_some _ _).symm.trans H; rw [hy208]; with_reducible exact H2_) | (have H2_ := (Option.bind_some _ _).symm.trans H; with_reducible exact H2_) | with_reducible exact H | (rw [hy208]; exact H) | exact H
 have Ny208 := Az.mk hy208
 clear hy208
 have H' := Az.mk H
 clear H
 go_enter Tryd.func20, Tryd.ntmps20
 go_wp2_with (first | ((with_reducible refine gate_dst (N := 6) rfl ?_); refine Kd.R_lit k42 _ 42 ?hg (N := 6) ?hd (xs := ([] : List (S42))) (inner := []) (ok := fun _ => True) (okp := fun _ => True) ?hr ?hp (fun _ hk => hk) trivial (Below.refl _ _) (Nat.le_refl _) (by simp) ?_; (case hd => rfl); (case hg => rfl); (case hr => first | (go_simp; done) | (go_simp; rfl)); (case hp => exact (Reps.none _ _)); intro v209 w2 ho3 hb hg_ hnew_; clear hg_ hnew_; (first | rw [← Ny208.out] at ho3 | (simp only [Int.reduceToNat] at ho3; rw [← Ny208.out] at ho3)); have n0_ := Az.mk (Kd.R_lower ho3 (bZ (by repeat first|exact HB.out|apply bA|apply bN|apply bD))); have n1_ := Az.mk (bS (by repeat first|exact HB.out|apply bA|apply bN|apply bD) hb); clear HB; have HO210 := n0_; have HB := n1_; clear n0_ n1_; clear hb ho3))
 go_loopg [3, 9] k (fun kq v3 v9 w' => ∃ (x3_1 : List (S42)) (x9_1 : Int), v9 = .int .i64 x9_1 ∧ Az (spec_l7Lives.l0 kq x3_1 l0 (l0.length : Int) x9_1 = some r) ∧ Az (kq ≤ k) ∧ Az (Kd.R k42 42 w' w.heap.size (fun _ => True) v3 x3_1) ∧ Az (Below w.heap.size w w'))
 case atStart => exact ⟨(y208), (0), (by first | rfl | (simp; done) | (simp [*]; done)), H', ⟨Nat.le_refl _⟩, ⟨by (with_reducible repeat first|apply Kd.Ra|apply Kd.Rn|apply Kd.Rw); exact HO210.out⟩, ⟨by repeat (first | (with_reducible first|exact HB.out|apply bA|apply bN|apply bD) | exact HB.out)⟩⟩
 case round =>
  clear H'
  try clear c2
  try clear p2
  obtain ⟨x3_1, x9_1, rfl, HA, HK1, HO_3, HB⟩ := hrel
  cases gk with
  | zero => exact absurd HA.out (by simp [spec_l7Lives.l0])
  | succ k1 =>
   have H := HA.out
   clear HA
   simp only [spec_l7Lives.l0] at H
   by_cases c4 : x9_1 < (l0.length : Int)
   ·rw [if_pos c4] at H
    have c4b0 : decide (x9_1 < (l0.length : Int)) = true := decide_eq_true c4
    clear c4
    by_cases c5 : 0 ≤ x9_1
    ·rw [if_pos c5] at H
     have c5b0 : decide (0 ≤ x9_1) = true := decide_eq_true c5
     clear c5
     by_cases c6 : x9_1 < (l0.length : Int)
     ·rw [if_pos c6] at H
      have c6b0 : decide (x9_1 < (l0.length : Int)) = true := decide_eq_true c6
      clear c6
      by_cases c7 : ((rd_T53 l0 x9_1).f0) = 43
      ·rw [if_pos c7] at H
       have c7b0 : (((rd_T53 l0 x9_1).f0) == 43) = true := beq_iff_eq.mpr c7
       have c7b1 : (((rd_T53 l0 x9_1).f0) != 43) = false := bne_eq_false_iff_eq.mpr c7
       clear c7
       by_cases c8 : x3_1.length < 5864062014805
       ·rw [if_pos c8] at H
        have LMc8 := Az.mk c8
        clear c8
        obtain ⟨y213, hy213⟩ : ∃ y_ : List (S42), y_ = (x3_1 ++ [(⟨x9_1, x9_1, (-1)⟩ : S42)]) := ⟨_, rfl⟩
        replace H : (spec_l7Lives.l0 k1 y213 l0 (l0.length : Int) (wrap64 (x9_1 + 1))) = some r := by first | (rw [hy213]; with_reducible exact H) | (have H2_ := (Option.bind_some _ _).symm.trans H; rw [hy213]; with_reducible exact H2_) | (have H2_ := (Option.bind_some _ _).symm.trans H; with_reducible exact H2_) | with_reducible exact H | (rw [hy213]; exact H) | exact H
        have Ny213 := Az.mk hy213
        clear hy213
        have H' := Az.mk H
        clear H
        have p211 : 0 ≤ (x9_1 : Int) := of_decide_eq_true (by first|(with_reducible assumption)|assumption)
        have q211 : x9_1 < (l0.length : Int) := of_decide_eq_true (by first|(with_reducible assumption)|assumption)
        obtain ⟨ad211, e211, hx211_0, hx211_1⟩ := at_T53 HR0.out x9_1 p211 q211
        cases e211
        replace hx211_0 := (HB.out.cell (World.block_lt_of_cell? w _ hx211_0)).trans hx211_0
        replace hx211_1 := (HB.out.cell (World.block_lt_of_cell? w _ hx211_1)).trans hx211_1
        replace p211 := eq_true p211
        replace q211 := eq_true q211
        go_wp2_with (first | ((with_reducible refine gate_dst (N := 5) rfl ?_); refine box_event ?hg (N := 5) ?hd (cs := #[.int .u8 0, .int .i64 0]) (t := 53) ?hr ?_; (case hd => rfl); (case hg => rfl); (case hr => first | (go_simp; done) | (go_simp; rfl)); intro gb212 hg w9 hbox hb; have n0_ := Az.mk (Kd.Rb (by (with_reducible repeat first|apply Kd.Ra|apply Kd.Rn|apply Kd.Rw); exact HO_3.out) hb); have n1_ := Az.mk (bS (by repeat first|exact HB.out|apply bA|apply bN|apply bD) hb); have n2_ := Az.mk (hbox); have n3_ := Az.mk ((by rw [hg]; exact (bZ (by repeat first|exact HB.out|apply bA|apply bN|apply bD)) : w.heap.size ≤ gb212)); have n4_ := Az.mk ((by rw [hg]; exact (bZ (by repeat first|exact HB.out|apply bA|apply bN|apply bD)) : w.heap.size ≤ gb212)); clear HO_3; clear HB; have HO_3 := n0_; have HB := n1_; have BK212 := n2_; have GW212 := n3_; have GE212 := n4_; clear n0_ n1_ n2_ n3_ n4_; clear hb hbox hg; have hcz10_0 : w9.cell? ⟨gb212, 0, none⟩ = some (.int .u8 0) := (blk_cell BK212.out 0).trans rfl; have hcz10_1 : w9.cell? ⟨gb212, 1, none⟩ = some (.int .i64 0) := (blk_cell BK212.out 1).trans rfl; have hfz10_0 := blk_frozen BK212.out 0; have hfz10_1 := blk_frozen BK212.out 1) | ((with_reducible refine gate_builtin (b := .append) (xs := #[.tmp 18, .tmp 22]) rfl ?_); at_builtin; refine Kd.R_append k42 (w0 := w) w.heap.size rfl (.tmp 18) (.tmp 22) 25 42 (.agg #[(.int .i64 0), (.int .i64 0), (.int .i64 0)]) 24 rfl Tryd.underlying25 info42 rfl (by decide) (by omega) u3 x3_1 (⟨x9_1, x9_1, (-1)⟩ : S42) [.int .i64 x9_1, .int .i64 x9_1, .int .i64 (-1)] (fun _ => True) (fun _ => False) rfl (by first | (go_simp; done) | (go_simp; rfl)) ?aP (fun _ hk => hk.elim) ?aF ?aO ?aB ?aS ?aL ?_; (case aP => exact k42_mkM _ _ _ (⟨x9_1, x9_1, (-1)⟩ : S42)); (case aB => exact (by repeat (first | (with_reducible first|exact HB.out|apply bA|apply bN|apply bD | refine below_set ?_ GE212.out) | exact HB.out))); (case aF => exact (fun _ _ => trivial)); (case aO => exact (by (with_reducible repeat first|apply Kd.Ra|apply Kd.Rn|apply Kd.Rw); exact Kd.R_mono (Kd.R_far (p := ⟨gb212, 1, none⟩) (Kd.R_far (p := ⟨gb212, 0, none⟩) (Kd.R_types HO_3.out BK212.out (by decide)) (fun _ hk => hk.2) (.int .u8 ((rd_T53 l0 x9_1).f0))) (fun _ hk => hk.2) (.int .i64 ((rd_T53 l0 x9_1).f1))) (fun _ hk => trivial))); (case aS => exact (bZ (by repeat (first | (with_reducible first|exact HB.out|apply bA|apply bN|apply bD | refine below_set ?_ GE212.out) | exact HB.out)))); (case aL => have := LMc8.out; omega); intro v214 w11 ho hb hg hat; rw [← Ny213.out] at ho; have n0_ := Az.mk (blk_grown (g := gb212) (o := .cells #[.int .u8 ((rd_T53 l0 x9_1).f0), .int .i64 ((rd_T53 l0 x9_1).f1)] 53 (0, 0)) (by (with_reducible repeat first|refine blN ?_ _|refine bl1 ?_|refine blA ?_ _); refine blk_put (cs := #[.int .u8 ((rd_T53 l0 x9_1).f0), .int .i64 0]) ?_ 1 _ rfl; (with_reducible repeat first|refine blN ?_ _|refine bl1 ?_|refine blA ?_ _); refine blk_put (cs := #[.int .u8 0, .int .i64 0]) ?_ 0 _ rfl; (with_reducible repeat first|refine blN ?_ _|refine bl1 ?_|refine blA ?_ _); exact BK212.out) hg (Kd.R_ne HO_3.out BK212.out (by decide))); have n1_ := Az.mk (hb); have n2_ := Az.mk (ho); clear BK212; clear HB; clear HO_3; have BK212 := n0_; have HB := n1_; have HO215 := n2_; clear n0_ n1_ n2_; clear ho hb hg hat))
        go_roundg k1
        case measure => have := HK1.out; omega
        case rel => exact ⟨(y213), (wrap64 (x9_1 + 1)), (by first | rfl | (simp; done) | (simp [*]; done)), H', ⟨by have := HK1.out; omega⟩, ⟨by (with_reducible repeat first|apply Kd.Ra|apply Kd.Rn|apply Kd.Rw); exact HO215.out⟩, ⟨by repeat (first | (with_reducible first|exact HB.out|apply bA|apply bN|apply bD | refine below_set ?_ GE212.out) | exact HB.out)⟩⟩
       ·rw [if_neg c8] at H
        exact absurd H (by simp)
      ·rw [if_neg c7] at H
       have c7b0 : (((rd_T53 l0 x9_1).f0) == 43) = false := beq_eq_false_iff_ne.mpr c7
       have c7b1 : (((rd_T53 l0 x9_1).f0) != 43) = true := bne_iff_ne.mpr c7
       by_cases c12 : ((rd_T53 l0 x9_1).f0) = 46
       ·rw [if_pos c12] at H
        have c12b0 : (((rd_T53 l0 x9_1).f0) == 46) = true := beq_iff_eq.mpr c12
        have c12b1 : (((rd_T53 l0 x9_1).f0) != 46) = false := bne_eq_false_iff_eq.mpr c12
        clear c12
        obtain ⟨ji13, hji13⟩ : ∃ j_ : Int, (wrap64 (((rd_T53 l0 x9_1).f1) - 1)) = j_ := ⟨_, rfl⟩
        replace H : (if 0 ≤ (ji13) then (if (ji13) < (x3_1.length : Int) then (spec_l7Lives.l0 k1 (x3_1.set ((ji13) : Int).toNat (⟨(rd_T42 x3_1 (ji13)).f0, x9_1, (rd_T42 x3_1 (ji13)).f2⟩ : S42)) l0 (l0.length : Int) (wrap64 (x9_1 + 1))) else (none)) else (none)) = some r := by first | (rw [hji13] at H; exact H) | (simp only [hji13] at H ⊢; exact H)
        have hji13w : (IntKind.i64.wrap (((rd_T53 l0 x9_1).f1) - 1)) = ji13 := (i64_w _).trans hji13
        by_cases c14 : 0 ≤ (ji13)
        ·rw [if_pos c14] at H
         have c14b0 : decide (0 ≤ (ji13)) = true := decide_eq_true c14
         clear c14
         by_cases c15 : (ji13) < (x3_1.length : Int)
         ·rw [if_pos c15] at H
          have c15b0 : decide ((ji13) < (x3_1.length : Int)) = true := decide_eq_true c15
          clear c15
          obtain ⟨y216, hy216⟩ : ∃ y_ : List (S42), y_ = (x3_1.set ((ji13) : Int).toNat (⟨(rd_T42 x3_1 (ji13)).f0, x9_1, (rd_T42 x3_1 (ji13)).f2⟩ : S42)) := ⟨_, rfl⟩
          replace H : (spec_l7Lives.l0 k1 y216 l0 (l0.length : Int) (wrap64 (x9_1 + 1))) = some r := by first | (rw [hy216]; with_reducible exact H) | (have H2_ := (Option.bind_some _ _).symm.trans H; rw [hy216]; with_reducible exact H2_) | (have H2_ := (Option.bind_some _ _).symm.trans H; with_reducible exact H2_) | with_reducible exact H | (rw [hy216]; exact H) | exact H
          have Ny216 := Az.mk hy216
          clear hy216
          have H' := Az.mk H
          clear H
          have p211 : 0 ≤ (x9_1 : Int) := of_decide_eq_true (by first|(with_reducible assumption)|assumption)
          have q211 : x9_1 < (l0.length : Int) := of_decide_eq_true (by first|(with_reducible assumption)|assumption)
          obtain ⟨ad211, e211, hx211_0, hx211_1⟩ := at_T53 HR0.out x9_1 p211 q211
          cases e211
          replace hx211_0 := (HB.out.cell (World.block_lt_of_cell? w _ hx211_0)).trans hx211_0
          replace hx211_1 := (HB.out.cell (World.block_lt_of_cell? w _ hx211_1)).trans hx211_1
          replace p211 := eq_true p211
          replace q211 := eq_true q211
          go_wp2_with (first | ((with_reducible refine gate_dst (N := 5) rfl ?_); refine box_event ?hg (N := 5) ?hd (cs := #[.int .u8 0, .int .i64 0]) (t := 53) ?hr ?_; (case hd => rfl); (case hg => rfl); (case hr => first | (go_simp; done) | (go_simp; rfl)); intro gb212 hg w17 hbox hb; have n0_ := Az.mk (Kd.Rb (by (with_reducible repeat first|apply Kd.Ra|apply Kd.Rn|apply Kd.Rw); exact HO_3.out) hb); have n1_ := Az.mk (bS (by repeat first|exact HB.out|apply bA|apply bN|apply bD) hb); have n2_ := Az.mk (hbox); have n3_ := Az.mk ((by rw [hg]; exact (bZ (by repeat first|exact HB.out|apply bA|apply bN|apply bD)) : w.heap.size ≤ gb212)); have n4_ := Az.mk ((by rw [hg]; exact (bZ (by repeat first|exact HB.out|apply bA|apply bN|apply bD)) : w.heap.size ≤ gb212)); clear HO_3; clear HB; have HO_3 := n0_; have HB := n1_; have BK212 := n2_; have GW212 := n3_; have GE212 := n4_; clear n0_ n1_ n2_ n3_ n4_; clear hb hbox hg; have hcz18_0 : w17.cell? ⟨gb212, 0, none⟩ = some (.int .u8 0) := (blk_cell BK212.out 0).trans rfl; have hcz18_1 : w17.cell? ⟨gb212, 1, none⟩ = some (.int .i64 0) := (blk_cell BK212.out 1).trans rfl; have hfz18_0 := blk_frozen BK212.out 0; have hfz18_1 := blk_frozen BK212.out 1) | ((with_reducible refine gate_store (t := 53) (p := 5) rfl ?_); refine store_event (t := 53) (p := 5) (v := ?vo_w19) (w1 := ((w17.setCell ⟨gb212, 0, none⟩ (.int .u8 ((rd_T53 l0 x9_1).f0))).setCell ⟨gb212, 1, none⟩ (.int .i64 ((rd_T53 l0 x9_1).f1)))) ?hg ?ho ?hn ?hr ?_; (case ho => rfl); (case hg => rfl); (case hn => rfl); (case hr => first | (go_simp; done) | (go_simp; rfl)); intro w19 hw; have n0_ : Az (Kd.R k42 42 w19 w.heap.size (fun _ => True) u3 x3_1) := ⟨(by rw [hw]; exact (by (with_reducible repeat first|apply Kd.Ra|apply Kd.Rn|apply Kd.Rw); exact Kd.R_mono (Kd.R_far (p := ⟨gb212, 1, none⟩) (Kd.R_far (p := ⟨gb212, 0, none⟩) (Kd.R_types HO_3.out BK212.out (by decide)) (fun _ hk => hk.2) (.int .u8 ((rd_T53 l0 x9_1).f0))) (fun _ hk => hk.2) (.int .i64 ((rd_T53 l0 x9_1).f1))) (fun _ hk => trivial)))⟩; have n1_ : Az (w19.heap[gb212]? = some (.cells #[.int .u8 ((rd_T53 l0 x9_1).f0), .int .i64 ((rd_T53 l0 x9_1).f1)] 53 (0, 0))) := ⟨(by rw [hw]; exact (by (with_reducible repeat first|refine blN ?_ _|refine bl1 ?_|refine blA ?_ _); refine blk_put (cs := #[.int .u8 ((rd_T53 l0 x9_1).f0), .int .i64 0]) ?_ 1 _ rfl; (with_reducible repeat first|refine blN ?_ _|refine bl1 ?_|refine blA ?_ _); refine blk_put (cs := #[.int .u8 0, .int .i64 0]) ?_ 0 _ rfl; (with_reducible repeat first|refine blN ?_ _|refine bl1 ?_|refine blA ?_ _); exact BK212.out))⟩; have n2_ : Az (Below w.heap.size w w19) := ⟨(by rw [hw]; exact (by repeat (first | (with_reducible first|exact HB.out|apply bA|apply bN|apply bD | refine below_set ?_ GE212.out) | exact HB.out)))⟩; clear hw; clear HO_3; clear BK212; clear HB; have HO_3 := n0_; have BK212 := n1_; have HB := n2_; clear n0_ n1_ n2_; have hcz20_0 : w19.cell? ⟨gb212, 0, none⟩ = some (.int .u8 ((rd_T53 l0 x9_1).f0)) := (blk_cell BK212.out 0).trans rfl; have hcz20_1 : w19.cell? ⟨gb212, 1, none⟩ = some (.int .i64 ((rd_T53 l0 x9_1).f1)) := (blk_cell BK212.out 1).trans rfl; have hfz20_0 := blk_frozen BK212.out 0; have hfz20_1 := blk_frozen BK212.out 1; have p16 : 0 ≤ ((ji13) : Int) := of_decide_eq_true (by first|(with_reducible assumption)|assumption); have q16 : ((ji13) : Int) < ((x3_1.length : Int) : Int) := of_decide_eq_true (by first|(with_reducible assumption)|assumption); obtain ⟨go16, co16, eo16, gb16, gl16, cl16, HG16⟩ := Kd.R_form HO_3.out (by omega); (first | cases eo16 | (injection eo16 with ea_ en_ ec_; (first | subst ea_ | (injection ea_ with ea_; subst ea_)); subst ec_; clear en_)); have GB16 := Az.mk gb16; have GG16 := Az.mk HG16; clear gb16 gl16 HG16; obtain ⟨ce16, hcl16, hM16, hcc16, hfr16⟩ := Kd.R_elem HO_3.out z42 ((ji13) : Int) p16 q16; obtain rfl := k42_openM hM16; have hx16_0 : w19.cell? ⟨go16, ((ji13) : Int).toNat * 3, none⟩ = some (.int .i64 ((rd_T42 x3_1 (ji13)).f0)) := hcc16 0 _ rfl; have hx16_1 : w19.cell? ⟨go16, ((ji13) : Int).toNat * 3 + 1, none⟩ = some (.int .i64 ((rd_T42 x3_1 (ji13)).f1)) := hcc16 1 _ rfl; have hx16_2 : w19.cell? ⟨go16, ((ji13) : Int).toNat * 3 + 2, none⟩ = some (.int .i64 ((rd_T42 x3_1 (ji13)).f2)) := hcc16 2 _ rfl; have hf16_0 : w19.frozen? ⟨go16, ((ji13) : Int).toNat * 3, none⟩ = false := hfr16 0; have hf16_1 : w19.frozen? ⟨go16, ((ji13) : Int).toNat * 3 + 1, none⟩ = false := hfr16 1; have hf16_2 : w19.frozen? ⟨go16, ((ji13) : Int).toNat * 3 + 2, none⟩ = false := hfr16 2; clear hcl16 hcc16 hfr16 hM16; replace p16 := eq_true p16; replace q16 := eq_true q16; have HX21 := Az.mk (show Kd.R k42 42 w19 w.heap.size (fun _ => True) (.slice (some ⟨go16, 0, none⟩) x3_1.length co16) x3_1 from (by (with_reducible repeat first|apply Kd.Ra|apply Kd.Rn|apply Kd.Rw); exact HO_3.out)); obtain ⟨ce21, hcl21, hM21, hcc21, hfr21⟩ := Kd.R_elem HX21.out z42 ((ji13) : Int) (of_decide_eq_true (by first|(with_reducible assumption)|assumption)) (by have h_ : ((ji13) : Int) < ((x3_1.length : Int) : Int) := of_decide_eq_true (by first|(with_reducible assumption)|assumption); first | exact h_ | (have e_ := (Kd.R_reads' HO_3.out).1; omega) | simpa using h_); obtain rfl := k42_openM hM21; have HP21 := Kd.R_seg HX21.out ((ji13) : Int) (of_decide_eq_true (by first|(with_reducible assumption)|assumption)) (by have h_ : ((ji13) : Int) < ((x3_1.length : Int) : Int) := of_decide_eq_true (by first|(with_reducible assumption)|assumption); first | exact h_ | (have e_ := (Kd.R_reads' HO_3.out).1; omega) | simpa using h_) (seg := [.int .i64 x9_1]) (j := 1) hcl21 hcc21 (show 2 ≤ 3 from by decide) (x' := (⟨(rd_T42 x3_1 (ji13)).f0, x9_1, (rd_T42 x3_1 (ji13)).f2⟩ : S42)) (k42_mkM _ _ _ (⟨(rd_T42 x3_1 (ji13)).f0, x9_1, (rd_T42 x3_1 (ji13)).f2⟩ : S42) ) (fun _ hk => hk); have hx21_1 := hcc21 1 _ rfl; (try simp only [show (k42).sz = 3 from rfl, Nat.mul_one, Nat.add_zero] at hx21_1); have hf21_1 := hfr21 1; (try simp only [show (k42).sz = 3 from rfl, Nat.mul_one, Nat.add_zero] at hf21_1); clear hcl21 hcc21 hfr21 hM21) | ((with_reducible refine gate_store (t := 3) (p := 32) rfl ?_); refine store_event (t := 3) (p := 32) (v := ?vo_w22) (w1 := (w19.setCell ⟨go16, ((ji13) : Int).toNat * 3 + 1, none⟩ (.int .i64 x9_1))) ?hg ?ho ?hn ?hr ?_; (case ho => rfl); (case hg => rfl); (case hn => rfl); (case hr => first | (go_simp; done) | (go_simp; rfl)); intro w22 hw; have hg : w19.grownBy w22 (some go16) := (by rw [hw]; exact HP21.2); have hp_ : Kd.R k42 42 w22 w.heap.size (fun _ => True) (.slice (some ⟨go16, 0, none⟩) x3_1.length co16) y216 := (by rw [hw, Ny216.out]; exact HP21.1); clear HP21; have n0_ := Az.mk (hp_); have n1_ := Az.mk (blk_grown (g := gb212) (o := .cells #[.int .u8 ((rd_T53 l0 x9_1).f0), .int .i64 ((rd_T53 l0 x9_1).f1)] 53 (0, 0)) (by (with_reducible repeat first|refine blN ?_ _|refine bl1 ?_|refine blA ?_ _); exact BK212.out) hg (Kd.R_ne HO_3.out BK212.out (by decide))); have n2_ := Az.mk ((by rw [hw]; exact below_set (HB.out) GB16.out : Below w.heap.size w w22)); clear HO_3; clear BK212; clear HB; have HO_3 := n0_; have BK212 := n1_; have HB := n2_; clear n0_ n1_ n2_; clear hg hw hp_))
          go_roundg k1
          case measure => have := HK1.out; omega
          case rel => exact ⟨(y216), (wrap64 (x9_1 + 1)), (by first | rfl | (simp; done) | (simp [*]; done)), H', ⟨by have := HK1.out; omega⟩, ⟨by (with_reducible repeat first|apply Kd.Ra|apply Kd.Rn|apply Kd.Rw); exact HO_3.out⟩, ⟨by repeat (first | (with_reducible first|exact HB.out|apply bA|apply bN|apply bD | refine below_set ?_ GE212.out) | exact HB.out)⟩⟩
         ·rw [if_neg c15] at H
          exact absurd H (by simp)
        ·rw [if_neg c14] at H
         exact absurd H (by simp)
       ·rw [if_neg c12] at H
        have c12b0 : (((rd_T53 l0 x9_1).f0) == 46) = false := beq_eq_false_iff_ne.mpr c12
        have c12b1 : (((rd_T53 l0 x9_1).f0) != 46) = true := bne_iff_ne.mpr c12
        by_cases c23 : ((rd_T53 l0 x9_1).f0) = 45
        ·rw [if_pos c23] at H
         have c23b0 : (((rd_T53 l0 x9_1).f0) == 45) = true := beq_iff_eq.mpr c23
         have c23b1 : (((rd_T53 l0 x9_1).f0) != 45) = false := bne_eq_false_iff_eq.mpr c23
         clear c23
         obtain ⟨ji24, hji24⟩ : ∃ j_ : Int, (wrap64 (((rd_T53 l0 x9_1).f1) - 1)) = j_ := ⟨_, rfl⟩
         replace H : (if 0 ≤ (ji24) then (if (ji24) < (x3_1.length : Int) then (spec_l7Lives.l0 k1 (x3_1.set ((ji24) : Int).toNat (⟨(rd_T42 x3_1 (ji24)).f0, (rd_T42 x3_1 (ji24)).f1, x9_1⟩ : S42)) l0 (l0.length : Int) (wrap64 (x9_1 + 1))) else (none)) else (none)) = some r := by first | (rw [hji24] at H; exact H) | (simp only [hji24] at H ⊢; exact H)
         have hji24w : (IntKind.i64.wrap (((rd_T53 l0 x9_1).f1) - 1)) = ji24 := (i64_w _).trans hji24
         by_cases c25 : 0 ≤ (ji24)
         ·rw [if_pos c25] at H
          have c25b0 : decide (0 ≤ (ji24)) = true := decide_eq_true c25
          clear c25
          by_cases c26 : (ji24) < (x3_1.length : Int)
          ·rw [if_pos c26] at H
           have c26b0 : decide ((ji24) < (x3_1.length : Int)) = true := decide_eq_true c26
           clear c26
           obtain ⟨y217, hy217⟩ : ∃ y_ : List (S42), y_ = (x3_1.set ((ji24) : Int).toNat (⟨(rd_T42 x3_1 (ji24)).f0, (rd_T42 x3_1 (ji24)).f1, x9_1⟩ : S42)) := ⟨_, rfl⟩
           replace H : (spec_l7Lives.l0 k1 y217 l0 (l0.length : Int) (wrap64 (x9_1 + 1))) = some r := by first | (rw [hy217]; with_reducible exact H) | (have H2_ := (Option.bind_some _ _).symm.trans H; rw [hy217]; with_reducible exact H2_) | (have H2_ := (Option.bind_some _ _).symm.trans H; with_reducible exact H2_) | with_reducible exact H | (rw [hy217]; exact H) | exact H
           have Ny217 := Az.mk hy217
           clear hy217
           have H' := Az.mk H
           clear H
           have p211 : 0 ≤ (x9_1 : Int) := of_decide_eq_true (by first|(with_reducible assumption)|assumption)
           have q211 : x9_1 < (l0.length : Int) := of_decide_eq_true (by first|(with_reducible assumption)|assumption)
           obtain ⟨ad211, e211, hx211_0, hx211_1⟩ := at_T53 HR0.out x9_1 p211 q211
           cases e211
           replace hx211_0 := (HB.out.cell (World.block_lt_of_cell? w _ hx211_0)).trans hx211_0
           replace hx211_1 := (HB.out.cell (World.block_lt_of_cell? w _ hx211_1)).trans hx211_1
           replace p211 := eq_true p211
           replace q211 := eq_true q211
           go_wp2_with (first | ((with_reducible refine gate_dst (N := 5) rfl ?_); refine box_event ?hg (N := 5) ?hd (cs := #[.int .u8 0, .int .i64 0]) (t := 53) ?hr ?_; (case hd => rfl); (case hg => rfl); (case hr => first | (go_simp; done) | (go_simp; rfl)); intro gb212 hg w28 hbox hb; have n0_ := Az.mk (Kd.Rb (by (with_reducible repeat first|apply Kd.Ra|apply Kd.Rn|apply Kd.Rw); exact HO_3.out) hb); have n1_ := Az.mk (bS (by repeat first|exact HB.out|apply bA|apply bN|apply bD) hb); have n2_ := Az.mk (hbox); have n3_ := Az.mk ((by rw [hg]; exact (bZ (by repeat first|exact HB.out|apply bA|apply bN|apply bD)) : w.heap.size ≤ gb212)); have n4_ := Az.mk ((by rw [hg]; exact (bZ (by repeat first|exact HB.out|apply bA|apply bN|apply bD)) : w.heap.size ≤ gb212)); clear HO_3; clear HB; have HO_3 := n0_; have HB := n1_; have BK212 := n2_; have GW212 := n3_; have GE212 := n4_; clear n0_ n1_ n2_ n3_ n4_; clear hb hbox hg; have hcz29_0 : w28.cell? ⟨gb212, 0, none⟩ = some (.int .u8 0) := (blk_cell BK212.out 0).trans rfl; have hcz29_1 : w28.cell? ⟨gb212, 1, none⟩ = some (.int .i64 0) := (blk_cell BK212.out 1).trans rfl; have hfz29_0 := blk_frozen BK212.out 0; have hfz29_1 := blk_frozen BK212.out 1) | ((with_reducible refine gate_store (t := 53) (p := 5) rfl ?_); refine store_event (t := 53) (p := 5) (v := ?vo_w30) (w1 := ((w28.setCell ⟨gb212, 0, none⟩ (.int .u8 ((rd_T53 l0 x9_1).f0))).setCell ⟨gb212, 1, none⟩ (.int .i64 ((rd_T53 l0 x9_1).f1)))) ?hg ?ho ?hn ?hr ?_; (case ho => rfl); (case hg => rfl); (case hn => rfl); (case hr => first | (go_simp; done) | (go_simp; rfl)); intro w30 hw; have n0_ : Az (Kd.R k42 42 w30 w.heap.size (fun _ => True) u3 x3_1) := ⟨(by rw [hw]; exact (by (with_reducible repeat first|apply Kd.Ra|apply Kd.Rn|apply Kd.Rw); exact Kd.R_mono (Kd.R_far (p := ⟨gb212, 1, none⟩) (Kd.R_far (p := ⟨gb212, 0, none⟩) (Kd.R_types HO_3.out BK212.out (by decide)) (fun _ hk => hk.2) (.int .u8 ((rd_T53 l0 x9_1).f0))) (fun _ hk => hk.2) (.int .i64 ((rd_T53 l0 x9_1).f1))) (fun _ hk => trivial)))⟩; have n1_ : Az (w30.heap[gb212]? = some (.cells #[.int .u8 ((rd_T53 l0 x9_1).f0), .int .i64 ((rd_T53 l0 x9_1).f1)] 53 (0, 0))) := ⟨(by rw [hw]; exact (by (with_reducible repeat first|refine blN ?_ _|refine bl1 ?_|refine blA ?_ _); refine blk_put (cs := #[.int .u8 ((rd_T53 l0 x9_1).f0), .int .i64 0]) ?_ 1 _ rfl; (with_reducible repeat first|refine blN ?_ _|refine bl1 ?_|refine blA ?_ _); refine blk_put (cs := #[.int .u8 0, .int .i64 0]) ?_ 0 _ rfl; (with_reducible repeat first|refine blN ?_ _|refine bl1 ?_|refine blA ?_ _); exact BK212.out))⟩; have n2_ : Az (Below w.heap.size w w30) := ⟨(by rw [hw]; exact (by repeat (first | (with_reducible first|exact HB.out|apply bA|apply bN|apply bD | refine below_set ?_ GE212.out) | exact HB.out)))⟩; clear hw; clear HO_3; clear BK212; clear HB; have HO_3 := n0_; have BK212 := n1_; have HB := n2_; clear n0_ n1_ n2_; have hcz31_0 : w30.cell? ⟨gb212, 0, none⟩ = some (.int .u8 ((rd_T53 l0 x9_1).f0)) := (blk_cell BK212.out 0).trans rfl; have hcz31_1 : w30.cell? ⟨gb212, 1, none⟩ = some (.int .i64 ((rd_T53 l0 x9_1).f1)) := (blk_cell BK212.out 1).trans rfl; have hfz31_0 := blk_frozen BK212.out 0; have hfz31_1 := blk_frozen BK212.out 1; have p27 : 0 ≤ ((ji24) : Int) := of_decide_eq_true (by first|(with_reducible assumption)|assumption); have q27 : ((ji24) : Int) < ((x3_1.length : Int) : Int) := of_decide_eq_true (by first|(with_reducible assumption)|assumption); obtain ⟨go27, co27, eo27, gb27, gl27, cl27, HG27⟩ := Kd.R_form HO_3.out (by omega); (first | cases eo27 | (injection eo27 with ea_ en_ ec_; (first | subst ea_ | (injection ea_ with ea_; subst ea_)); subst ec_; clear en_)); have GB27 := Az.mk gb27; have GG27 := Az.mk HG27; clear gb27 gl27 HG27; obtain ⟨ce27, hcl27, hM27, hcc27, hfr27⟩ := Kd.R_elem HO_3.out z42 ((ji24) : Int) p27 q27; obtain rfl := k42_openM hM27; have hx27_0 : w30.cell? ⟨go27, ((ji24) : Int).toNat * 3, none⟩ = some (.int .i64 ((rd_T42 x3_1 (ji24)).f0)) := hcc27 0 _ rfl; have hx27_1 : w30.cell? ⟨go27, ((ji24) : Int).toNat * 3 + 1, none⟩ = some (.int .i64 ((rd_T42 x3_1 (ji24)).f1)) := hcc27 1 _ rfl; have hx27_2 : w30.cell? ⟨go27, ((ji24) : Int).toNat * 3 + 2, none⟩ = some (.int .i64 ((rd_T42 x3_1 (ji24)).f2)) := hcc27 2 _ rfl; have hf27_0 : w30.frozen? ⟨go27, ((ji24) : Int).toNat * 3, none⟩ = false := hfr27 0; have hf27_1 : w30.frozen? ⟨go27, ((ji24) : Int).toNat * 3 + 1, none⟩ = false := hfr27 1; have hf27_2 : w30.frozen? ⟨go27, ((ji24) : Int).toNat * 3 + 2, none⟩ = false := hfr27 2; clear hcl27 hcc27 hfr27 hM27; replace p27 := eq_true p27; replace q27 := eq_true q27; have HX32 := Az.mk (show Kd.R k42 42 w30 w.heap.size (fun _ => True) (.slice (some ⟨go27, 0, none⟩) x3_1.length co27) x3_1 from (by (with_reducible repeat first|apply Kd.Ra|apply Kd.Rn|apply Kd.Rw); exact HO_3.out)); obtain ⟨ce32, hcl32, hM32, hcc32, hfr32⟩ := Kd.R_elem HX32.out z42 ((ji24) : Int) (of_decide_eq_true (by first|(with_reducible assumption)|assumption)) (by have h_ : ((ji24) : Int) < ((x3_1.length : Int) : Int) := of_decide_eq_true (by first|(with_reducible assumption)|assumption); first | exact h_ | (have e_ := (Kd.R_reads' HO_3.out).1; omega) | simpa using h_); obtain rfl := k42_openM hM32; have HP32 := Kd.R_seg HX32.out ((ji24) : Int) (of_decide_eq_true (by first|(with_reducible assumption)|assumption)) (by have h_ : ((ji24) : Int) < ((x3_1.length : Int) : Int) := of_decide_eq_true (by first|(with_reducible assumption)|assumption); first | exact h_ | (have e_ := (Kd.R_reads' HO_3.out).1; omega) | simpa using h_) (seg := [.int .i64 x9_1]) (j := 2) hcl32 hcc32 (show 3 ≤ 3 from by decide) (x' := (⟨(rd_T42 x3_1 (ji24)).f0, (rd_T42 x3_1 (ji24)).f1, x9_1⟩ : S42)) (k42_mkM _ _ _ (⟨(rd_T42 x3_1 (ji24)).f0, (rd_T42 x3_1 (ji24)).f1, x9_1⟩ : S42) ) (fun _ hk => hk); have hx32_2 := hcc32 2 _ rfl; (try simp only [show (k42).sz = 3 from rfl, Nat.mul_one, Nat.add_zero] at hx32_2); have hf32_2 := hfr32 2; (try simp only [show (k42).sz = 3 from rfl, Nat.mul_one, Nat.add_zero] at hf32_2); clear hcl32 hcc32 hfr32 hM32) | ((with_reducible refine gate_store (t := 3) (p := 41) rfl ?_); refine store_event (t := 3) (p := 41) (v := ?vo_w33) (w1 := (w30.setCell ⟨go27, ((ji24) : Int).toNat * 3 + 2, none⟩ (.int .i64 x9_1))) ?hg ?ho ?hn ?hr ?_; (case ho => rfl); (case hg => rfl); (case hn => rfl); (case hr => first | (go_simp; done) | (go_simp; rfl)); intro w33 hw; have hg : w30.grownBy w33 (some go27) := (by rw [hw]; exact HP32.2); have hp_ : Kd.R k42 42 w33 w.heap.size (fun _ => True) (.slice (some ⟨go27, 0, none⟩) x3_1.length co27) y217 := (by rw [hw, Ny217.out]; exact HP32.1); clear HP32; have n0_ := Az.mk (hp_); have n1_ := Az.mk (blk_grown (g := gb212) (o := .cells #[.int .u8 ((rd_T53 l0 x9_1).f0), .int .i64 ((rd_T53 l0 x9_1).f1)] 53 (0, 0)) (by (with_reducible repeat first|refine blN ?_ _|refine bl1 ?_|refine blA ?_ _); exact BK212.out) hg (Kd.R_ne HO_3.out BK212.out (by decide))); have n2_ := Az.mk ((by rw [hw]; exact below_set (HB.out) GB27.out : Below w.heap.size w w33)); clear HO_3; clear BK212; clear HB; have HO_3 := n0_; have BK212 := n1_; have HB := n2_; clear n0_ n1_ n2_; clear hg hw hp_))
           go_roundg k1
           case measure => have := HK1.out; omega
           case rel => exact ⟨(y217), (wrap64 (x9_1 + 1)), (by first | rfl | (simp; done) | (simp [*]; done)), H', ⟨by have := HK1.out; omega⟩, ⟨by (with_reducible repeat first|apply Kd.Ra|apply Kd.Rn|apply Kd.Rw); exact HO_3.out⟩, ⟨by repeat (first | (with_reducible first|exact HB.out|apply bA|apply bN|apply bD | refine below_set ?_ GE212.out) | exact HB.out)⟩⟩
          ·rw [if_neg c26] at H
           exact absurd H (by simp)
         ·rw [if_neg c25] at H
          exact absurd H (by simp)
        ·rw [if_neg c23] at H
         have c23b0 : (((rd_T53 l0 x9_1).f0) == 45) = false := beq_eq_false_iff_ne.mpr c23
         have c23b1 : (((rd_T53 l0 x9_1).f0) != 45) = true := bne_iff_ne.mpr c23
         have H' := Az.mk H
         clear H
         have p211 : 0 ≤ (x9_1 : Int) := of_decide_eq_true (by first|(with_reducible assumption)|assumption)
         have q211 : x9_1 < (l0.length : Int) := of_decide_eq_true (by first|(with_reducible assumption)|assumption)
         obtain ⟨ad211, e211, hx211_0, hx211_1⟩ := at_T53 HR0.out x9_1 p211 q211
         cases e211
         replace hx211_0 := (HB.out.cell (World.block_lt_of_cell? w _ hx211_0)).trans hx211_0
         replace hx211_1 := (HB.out.cell (World.block_lt_of_cell? w _ hx211_1)).trans hx211_1
         replace p211 := eq_true p211
         replace q211 := eq_true q211
         go_wp2_with (first | ((with_reducible refine gate_dst (N := 5) rfl ?_); refine box_event ?hg (N := 5) ?hd (cs := #[.int .u8 0, .int .i64 0]) (t := 53) ?hr ?_; (case hd => rfl); (case hg => rfl); (case hr => first | (go_simp; done) | (go_simp; rfl)); intro gb212 hg w34 hbox hb; have n0_ := Az.mk (Kd.Rb (by (with_reducible repeat first|apply Kd.Ra|apply Kd.Rn|apply Kd.Rw); exact HO_3.out) hb); have n1_ := Az.mk (bS (by repeat first|exact HB.out|apply bA|apply bN|apply bD) hb); have n2_ := Az.mk (hbox); have n3_ := Az.mk ((by rw [hg]; exact (bZ (by repeat first|exact HB.out|apply bA|apply bN|apply bD)) : w.heap.size ≤ gb212)); have n4_ := Az.mk ((by rw [hg]; exact (bZ (by repeat first|exact HB.out|apply bA|apply bN|apply bD)) : w.heap.size ≤ gb212)); clear HO_3; clear HB; have HO_3 := n0_; have HB := n1_; have BK212 := n2_; have GW212 := n3_; have GE212 := n4_; clear n0_ n1_ n2_ n3_ n4_; clear hb hbox hg; have hcz35_0 : w34.cell? ⟨gb212, 0, none⟩ = some (.int .u8 0) := (blk_cell BK212.out 0).trans rfl; have hcz35_1 : w34.cell? ⟨gb212, 1, none⟩ = some (.int .i64 0) := (blk_cell BK212.out 1).trans rfl; have hfz35_0 := blk_frozen BK212.out 0; have hfz35_1 := blk_frozen BK212.out 1))
         go_roundg k1
         case measure => have := HK1.out; omega
         case rel => exact ⟨(x3_1), (wrap64 (x9_1 + 1)), (by first | rfl | (simp; done) | (simp [*]; done)), H', ⟨by have := HK1.out; omega⟩, ⟨by (with_reducible repeat first|apply Kd.Ra|apply Kd.Rn|apply Kd.Rw); exact Kd.R_mono (Kd.R_far (p := ⟨gb212, 1, none⟩) (Kd.R_far (p := ⟨gb212, 0, none⟩) (Kd.R_types HO_3.out BK212.out (by decide)) (fun _ hk => hk.2) (.int .u8 ((rd_T53 l0 x9_1).f0))) (fun _ hk => hk.2) (.int .i64 ((rd_T53 l0 x9_1).f1))) (fun _ hk => trivial)⟩, ⟨by repeat (first | (with_reducible first|exact HB.out|apply bA|apply bN|apply bD | refine below_set ?_ GE212.out) | exact HB.out)⟩⟩
     ·rw [if_neg c6] at H
      exact absurd H (by simp)
    ·rw [if_neg c5] at H
     exact absurd H (by simp)
   ·rw [if_neg c4] at H
    have c4b0 : decide (x9_1 < (l0.length : Int)) = false := decide_eq_false c4
    clear c4
    obtain rfl := Option.some.inj H
    go_wp2
    go_ret
    exact ⟨_, by first | rfl | (simp [errW_none, errW_some] <;> rfl) | (simp [*, errW_none, errW_some] <;> rfl), by (with_reducible repeat first|apply Kd.Ra|apply Kd.Rn|apply Kd.Rw); exact HO_3.out, by repeat (first | (with_reducible first|exact HB.out|apply bA|apply bN|apply bD) | exact HB.out)⟩
def spec_LivesOf.f (k : Nat) (a0 : ByteArray) : Option ((List (S42)) × Bool) := (spec_l7Read.f k a0).bind fun bt218 => (if bt218.2 = true then ((spec_l7Lives.f k bt218.1).bind fun t222 => (some (t222, true))) else (some ((([] : List (S42))), false)))
set_option maxHeartbeats 8000000 in
set_option maxRecDepth 100000 in
theorem spec_LivesOf.calls (k : Nat) (a0 : ByteArray) (r1 : List (S42)) (r2 : Bool) (w : World) (h : spec_LivesOf.f k a0 = some (r1, r2)) :
  Calls Tryd.prog 14 #[.string a0] w fun e w' => ∃ v0_ : Value, e = .returned (.tuple #[v0_, .bool r2]) ∧ Kd.R k42 42 w' w.heap.size (fun _ => True) v0_ r1 ∧ Below w.heap.size w w' := by
 have HB := Az.mk (Below.refl w.heap.size w)
 have H : ((spec_l7Read.f k a0).bind fun bt218 => (if bt218.2 = true then ((spec_l7Lives.f k bt218.1).bind fun t222 => (some (t222, true))) else (some ((([] : List (S42))), false)))) = some (r1, r2) := h
 clear h
 replace H := Option.bind_eq_some_iff.mp H
 obtain ⟨⟨t218, t219⟩, A20, H⟩ := H
 replace H : (if t219 = true then ((spec_l7Lives.f k t218).bind fun t222 => (some (t222, true))) else (some ((([] : List (S42))), false))) = some (r1, r2) := H
 have A2 := Az.mk A20
 clear A20
 by_cases c3 : t219 = true
 ·subst c3
  have H1 : ((spec_l7Lives.f k t218).bind fun t222 => (some (t222, true))) = some (r1, r2) := by rw [if_pos rfl] at H; exact H
  clear H
  have H := H1
  clear H1
  replace H := Option.bind_eq_some_iff.mp H
  obtain ⟨t222, A40, H⟩ := H
  replace H : (some (t222, true)) = some (r1, r2) := H
  have A4 := Az.mk A40
  clear A40
  simp only [Option.some.injEq, Prod.mk.injEq] at H
  obtain ⟨rfl, rfl⟩ := H
  go_enter Tryd.func14, Tryd.ntmps14
  go_wp2_with (first | ((with_reducible refine gate_callee (f := 19) rfl ?_); refine goesL_ (some 8) rfl rfl Tryd.func19 (by kernel_rfl) rfl #[.string a0] rfl (by (try simp only [List.map_toArray, List.map_cons, List.map_nil]); first | done | rfl | (simp only [List.length_drop, List.length_take]; rfl)) ?_; (with_reducible refine (spec_l7Read.calls k a0 t218 true _ A2.out).mono ?_); rintro e w5 ⟨v220, rfl, ho0, hb⟩; refine ⟨_, rfl, ?_⟩; have n0_ := Az.mk (Kd.R_lower ho0 (bZ (by repeat first|exact HB.out|apply bA|apply bN|apply bD))); have n1_ := Az.mk (bS (by repeat first|exact HB.out|apply bA|apply bN|apply bD) hb); clear HB; have HO221 := n0_; have HB := n1_; clear n0_ n1_; (try clear hb); (try clear hb2); (try clear hk); (try clear hi); (try clear ho0); obtain ⟨Ao6, co6, eo6⟩ := Kd.R_slice HO221.out; subst eo6) | ((with_reducible refine gate_callee (f := 20) rfl ?_); refine goesL_ (some 15) rfl rfl Tryd.func20 (by kernel_rfl) rfl #[.slice Ao6 t218.length co6] rfl (by (try simp only [List.map_toArray, List.map_cons, List.map_nil]); first | done | rfl | (simp only [List.length_drop, List.length_take]; rfl)) ?_; (with_reducible refine (spec_l7Lives.calls k _ _ t218 t222 _ ?side1 ?side2 A4.out).mono ?_); (case side1 => repeat (first | exact (Kd.R_reads' HO221.out).2.2 | (with_reducible refine Kd.C_alloc ?_ _) | (with_reducible refine Kd.C_drewN ?_ _) | (with_reducible refine Kd.C_drew ?_))); (case side2 => exact (Kd.R_reads' HO221.out).2.1); rintro e w7 ⟨v223, rfl, ho0, hb⟩; refine ⟨_, rfl, ?_⟩; have n0_ := Az.mk (Kd.Rb (by (with_reducible repeat first|apply Kd.Ra|apply Kd.Rn|apply Kd.Rw); exact HO221.out) hb); have n1_ := Az.mk (Kd.R_lower ho0 (bZ (by repeat first|exact HB.out|apply bA|apply bN|apply bD))); have n2_ := Az.mk (bS (by repeat first|exact HB.out|apply bA|apply bN|apply bD) hb); clear HO221; clear HB; have HO221 := n0_; have HO224 := n1_; have HB := n2_; clear n0_ n1_ n2_; (try clear hb); (try clear hb2); (try clear hk); (try clear hi); (try clear ho0)))
  go_ret2
  exact ⟨_, by first | rfl | (simp [errW_none, errW_some] <;> rfl) | (simp [*, errW_none, errW_some] <;> rfl), by (with_reducible repeat first|apply Kd.Ra|apply Kd.Rn|apply Kd.Rw); exact HO224.out, by repeat (first | (with_reducible first|exact HB.out|apply bA|apply bN|apply bD) | exact HB.out)⟩
 ·replace c3 := Bool.eq_false_iff.mpr c3
  subst c3
  have H1 : (some ((([] : List (S42))), false)) = some (r1, r2) := by rw [if_neg (show ¬ (false = true) by decide)] at H; exact H
  clear H
  have H := H1
  clear H1
  obtain ⟨y225, hy225⟩ : ∃ y_ : List (S42), y_ = (([] : List (S42))) := ⟨_, rfl⟩
  replace H : (some (y225, false)) = some (r1, r2) := by first | (rw [hy225]; with_reducible exact H) | (have H2_ := (Option.bind_some _ _).symm.trans H; rw [hy225]; with_reducible exact H2_) | (have H2_ := (Option.bind_some _ _).symm.trans H; with_reducible exact H2_) | with_reducible exact H | (rw [hy225]; exact H) | exact H
  have Ny225 := Az.mk hy225
  clear hy225
  simp only [Option.some.injEq, Prod.mk.injEq] at H
  obtain ⟨rfl, rfl⟩ := H
  go_enter Tryd.func14, Tryd.ntmps14
  go_wp2_with (first | ((with_reducible refine gate_callee (f := 19) rfl ?_); refine goesL_ (some 8) rfl rfl Tryd.func19 (by kernel_rfl) rfl #[.string a0] rfl (by (try simp only [List.map_toArray, List.map_cons, List.map_nil]); first | done | rfl | (simp only [List.length_drop, List.length_take]; rfl)) ?_; (with_reducible refine (spec_l7Read.calls k a0 t218 false _ A2.out).mono ?_); rintro e w8 ⟨v220, rfl, ho0, hb⟩; refine ⟨_, rfl, ?_⟩; have n0_ := Az.mk (Kd.R_lower ho0 (bZ (by repeat first|exact HB.out|apply bA|apply bN|apply bD))); have n1_ := Az.mk (bS (by repeat first|exact HB.out|apply bA|apply bN|apply bD) hb); clear HB; have HO221 := n0_; have HB := n1_; clear n0_ n1_; (try clear hb); (try clear hb2); (try clear hk); (try clear hi); (try clear ho0)) | ((with_reducible refine gate_dst (N := 13) rfl ?_); refine Kd.R_lit k42 _ 42 ?hg (N := 13) ?hd (xs := ([] : List (S42))) (inner := []) (ok := fun _ => True) (okp := fun _ => True) ?hr ?hp (fun _ hk => hk) trivial (Below.refl _ _) (Nat.le_refl _) (by simp) ?_; (case hd => rfl); (case hg => rfl); (case hr => first | (go_simp; done) | (go_simp; rfl)); (case hp => exact (Reps.none _ _)); intro v226 w9 ho10 hb hg_ hnew_; clear hg_ hnew_; (first | rw [← Ny225.out] at ho10 | (simp only [Int.reduceToNat] at ho10; rw [← Ny225.out] at ho10)); have n0_ := Az.mk (Kd.Rb (by (with_reducible repeat first|apply Kd.Ra|apply Kd.Rn|apply Kd.Rw); exact HO221.out) hb); have n1_ := Az.mk (Kd.R_lower ho10 (bZ (by repeat first|exact HB.out|apply bA|apply bN|apply bD))); have n2_ := Az.mk (bS (by repeat first|exact HB.out|apply bA|apply bN|apply bD) hb); clear HO221; clear HB; have HO221 := n0_; have HO227 := n1_; have HB := n2_; clear n0_ n1_ n2_; clear hb ho10))
  go_ret2
  exact ⟨_, by first | rfl | (simp [errW_none, errW_some] <;> rfl) | (simp [*, errW_none, errW_some] <;> rfl), by (with_reducible repeat first|apply Kd.Ra|apply Kd.Rn|apply Kd.Rw); exact HO227.out, by repeat (first | (with_reducible first|exact HB.out|apply bA|apply bN|apply bD) | exact HB.out)⟩
end Go.Proofs.YtojhdfdhfajjjaaDoor.Pr
namespace Go.Proofs.YtojhdfdhfajjjaaDoor.Pr
open Go.RowKit Go.Proofs.YtojhdfdhfajjjaaDoorW.PrintWords Go.Proofs.YtojhdfdhfajjjaaDoorW.PrintLast
structure S55 where
  f0 : ByteArray
  f1 : Int
structure Tst where
  out : List S55
  made : Int
  live : List Int
def sgn (s : ByteArray) : ByteArray := s.extract 0 1
def dig (s : ByteArray) : ByteArray := s.extract 1 s.size
def numOf (s : ByteArray) : Option Int := match Lib.atoiAll (dig s).data.toList with
  | .ok n => if Lib.itoa n = (dig s).data.toList then some n else none
  | _ => none
def tsign (st : Tst) (s : ByteArray) (n : Int) : Option Tst :=
  if (sgn s).toList = [43] ∧ n = st.made + 1 then some ⟨st.out ++ [⟨sgn s, n⟩], st.made + 1, st.live ++ [n]⟩
  else if (sgn s).toList = [46] ∧ n ∈ st.live then some ⟨st.out ++ [⟨sgn s, n⟩], st.made, st.live⟩
  else if (sgn s).toList = [45] ∧ n ∈ st.live then some ⟨st.out ++ [⟨sgn s, n⟩], st.made, st.live.filter (fun y => y != n)⟩
  else none
def tstep (st : Tst) (s : ByteArray) : Option Tst :=
  if s.size = 0 then none else match numOf s with
    | none => none
    | some n => if st.out.length = 600 then none else tsign st s n
def tloop : List ByteArray → Tst → Option Tst
  | [], st => some st
  | s :: r, st => match tstep st s with
    | none => none
    | some st' => tloop r st'
def pieces (a0 : ByteArray) : List ByteArray := Lib.splitB ⟨#[32]⟩ 0 (Lib.countB a0 ⟨#[32]⟩) a0
def toldOf (a0 : ByteArray) : List S55 × Int × Bool :=
  if a0.toList = [45] then ([], 0, true) else match tloop (pieces a0) ⟨[], 0, []⟩ with
    | none => ([], 0, false)
    | some st => (st.out, st.made, true)
theorem pieces_length (s : ByteArray) : (pieces s).length = Lib.countB s ⟨#[32]⟩ + 1 := Lib.splitB_all ⟨#[32]⟩ (by decide) 0 _ s rfl
theorem tloop_drop {ws : List ByteArray} {k : Nat} (hk : k < ws.length) (st : Tst) : tloop (ws.drop k) st = match tstep st ws[k] with | none => none | some st' => tloop (ws.drop (k + 1)) st' := by
  rw [List.drop_eq_getElem_cons hk, tloop]
theorem tloop_end {ws : List ByteArray} {k : Nat} (hk : k = ws.length) (st : Tst) : tloop (ws.drop k) st = some st := by
  rw [hk, List.drop_length, tloop]
end Go.Proofs.YtojhdfdhfajjjaaDoor.Pr
namespace Go.Proofs.YtojhdfdhfajjjaaDoor.Pr
open Go.RowKit Go.Proofs.YtojhdfdhfajjjaaDoorW.PrintWords Go.Proofs.YtojhdfdhfajjjaaDoorW.PrintLast
def lvset (xs : List S42) (i : Int) (e : S55) : List S42 :=
  if e.f0.toList = [43] then xs.set (e.f1 - 1).toNat ⟨i, i, -1⟩
  else if e.f0.toList = [46] then xs.set (e.f1 - 1).toNat ⟨(rd_T42 xs (e.f1 - 1)).f0, i, (rd_T42 xs (e.f1 - 1)).f2⟩
  else if e.f0.toList = [45] then xs.set (e.f1 - 1).toNat ⟨(rd_T42 xs (e.f1 - 1)).f0, (rd_T42 xs (e.f1 - 1)).f1, i⟩
  else xs
end Go.Proofs.YtojhdfdhfajjjaaDoor.Pr
namespace Go.Proofs.YtojhdfdhfajjjaaDoor.Pr
open Go.RowKit Go.Proofs.YtojhdfdhfajjjaaDoorW.PrintWords Go.Proofs.YtojhdfdhfajjjaaDoorW.PrintLast Go.Proofs.YtojhdfdhfajjjaaDoorW.PrintMore
theorem wrap_small {n : Int} (h1 : -9223372036854775808 ≤ n) (h2 : n < 9223372036854775808) : wrap64 n = n := by
  unfold wrap64
  omega
theorem wrap_up {i : Nat} (h : i ≤ 1000000000) : wrap64 ((i : Int) + 1) = ((i + 1 : Nat) : Int) := by
  rw [wrap_small (by omega) (by omega)]; rfl
theorem rd48_at {xs : List S42} {i : Nat} (h : i < xs.length) : rd_T42 xs (i : Int) = xs[i] := by
  unfold rd_T42
  rw [List.getD_eq_getElem?_getD, Int.toNat_natCast, List.getElem?_eq_getElem h]
  rfl
theorem rd_at {xs : List Int} {i : Nat} (h : i < xs.length) : rd xs (i : Int) = xs[i] := by
  unfold rd
  rw [List.getD_eq_getElem?_getD, Int.toNat_natCast, List.getElem?_eq_getElem h]
  rfl
end Go.Proofs.YtojhdfdhfajjjaaDoor.Pr
namespace Go.Proofs.YtojhdfdhfajjjaaDoor.Pr
open Go.RowKit Go.Proofs.YtojhdfdhfajjjaaDoorW.PrintWords Go.Proofs.YtojhdfdhfajjjaaDoorW.PrintLast
theorem in_ev (l : List Int) (n : Int) (hl : l.length ≤ 1000000) : ∀ (m i : Nat), i + m = l.length → Ev (fun k => spec_l7In.l0 k n l (l.length : Int) i) (decide (n ∈ l.drop i))
  | 0, i, h => by
    refine Ev.step (f := fun _ => some (decide (n ∈ l.drop i))) (fun k => ?_) (Ev.now _)
    show spec_l7In.l0 (k + 1) n l l.length i = _
    rw [spec_l7In.l0, if_neg (by omega), List.drop_of_length_le (by omega)]
    simp
  | m + 1, i, h => by
    have hi : i < l.length := by omega
    rw [List.drop_eq_getElem_cons hi]
    by_cases hx : l[i] = n
    · refine Ev.step (f := fun _ => some (decide (n ∈ l[i] :: l.drop (i + 1)))) (fun k => ?_) (Ev.now _)
      show spec_l7In.l0 (k + 1) n l l.length i = _
      rw [spec_l7In.l0, if_pos (by omega), if_pos (by omega), if_pos (by omega), if_pos (by unfold rd; simp [hi, hx])]
      simp [hx]
    · refine Ev.step (f := fun k => spec_l7In.l0 k n l l.length ((i + 1 : Nat) : Int)) (fun k => ?_) ?_
      · show spec_l7In.l0 (k + 1) n l l.length i = _
        rw [spec_l7In.l0, if_pos (by omega), if_pos (by omega), if_pos (by omega), if_neg (by unfold rd; simp [hi, hx]), wrap_small (by omega) (by omega)]
        rfl
      · have := in_ev l n hl m (i + 1) (by omega)
        have e : decide (n ∈ l[i] :: l.drop (i + 1)) = decide (n ∈ l.drop (i + 1)) := by
          simp only [List.mem_cons, show ¬ n = l[i] from fun e => hx e.symm, false_or]
        rw [e]
        exact this
theorem l7In_ev (l : List Int) (n : Int) (hl : l.length ≤ 1000000) : Ev (fun k => spec_l7In.f k l n) (decide (n ∈ l)) := by
  have := in_ev l n hl l.length 0 (by omega)
  simpa [spec_l7In.f] using this
theorem without_ev (l : List Int) (n : Int) (hl : l.length ≤ 1000000) : ∀ (m i : Nat) (acc : List Int), acc.length ≤ i → i + m = l.length → Ev (fun k => spec_l7Without.l0 k n acc l (l.length : Int) i) (acc ++ (l.drop i).filter (fun y => y != n))
  | 0, i, acc, ha, h => by
    refine Ev.step (f := fun _ => some (acc ++ (l.drop i).filter (fun y => y != n))) (fun k => ?_) (Ev.now _)
    show spec_l7Without.l0 (k + 1) n acc l l.length i = _
    rw [spec_l7Without.l0, if_neg (by omega), List.drop_of_length_le (by omega)]
    simp
  | m + 1, i, acc, ha, h => by
    have hi : i < l.length := by omega
    rw [List.drop_eq_getElem_cons hi]
    by_cases hx : l[i] = n
    · refine Ev.step (f := fun k => spec_l7Without.l0 k n acc l l.length ((i + 1 : Nat) : Int)) (fun k => ?_) ?_
      · show spec_l7Without.l0 (k + 1) n acc l l.length i = _
        rw [spec_l7Without.l0, if_pos (by omega), if_pos (by omega), if_pos (by omega), if_pos (by unfold rd; simp [hi, hx]), wrap_small (by omega) (by omega)]
        rfl
      · have := without_ev l n hl m (i + 1) acc (by omega) (by omega)
        rw [List.filter_cons_of_neg (by simp [hx])]
        exact this
    · refine Ev.step (f := fun k => spec_l7Without.l0 k n (acc ++ [l[i]]) l l.length ((i + 1 : Nat) : Int)) (fun k => ?_) ?_
      · show spec_l7Without.l0 (k + 1) n acc l l.length i = _
        rw [spec_l7Without.l0, if_pos (by omega), if_pos (by omega), if_pos (by omega), if_neg (by unfold rd; simp [hi, hx]), if_pos (by omega), wrap_small (by omega) (by omega), show rd l (i : Int) = l[i] by unfold rd; simp [hi]]
        rfl
      · have := without_ev l n hl m (i + 1) (acc ++ [l[i]]) (by simp; omega) (by omega)
        rw [List.filter_cons_of_pos (by simp [hx])]
        simpa using this
theorem l7Without_ev (l : List Int) (n : Int) (hl : l.length ≤ 1000000) : Ev (fun k => spec_l7Without.f k l n) (l.filter (fun y => y != n)) := by
  have := without_ev l n hl l.length 0 [] (by simp) (by omega)
  simpa [spec_l7Without.f] using this
def pre (p : List UInt8) : List (List UInt8) → List (List UInt8)
  | [] => []
  | h :: t => (p ++ h) :: t
def cutL : List UInt8 → List (List UInt8)
  | [] => [[]]
  | c :: r => if c = 32 then [] :: cutL r else pre [c] (cutL r)
theorem pre_pre (p q : List UInt8) (X : List (List UInt8)) : pre p (pre q X) = pre (p ++ q) X := by
  cases X with
  | nil => rfl
  | cons h t => simp [pre]
theorem pre_nil (X : List (List UInt8)) : pre [] X = X := by
  cases X with
  | nil => rfl
  | cons h t => rfl
theorem bt_at (s : ByteArray) (i : Nat) (h : i < s.size) : bt s (i : Int) = ((s.data.toList[i]'(by simpa using h)).toNat : Int) := by
  unfold bt
  simp only [Int.toNat_natCast]
  rw [dif_pos h]
  rfl
theorem cut_ev (s : ByteArray) (hs : s.size ≤ 1048576) : ∀ (m i fr : Nat) (acc : List ByteArray), i + m = s.size → fr ≤ i → acc.length ≤ i →
    ∃ res, Ev (fun k => spec_l13Cut.l0 k s 32 acc (fr : Int) (i : Int)) res ∧ res.map (·.data.toList) = acc.map (·.data.toList) ++ pre ((s.data.toList.drop fr).take (i - fr)) (cutL (s.data.toList.drop i))
  | 0, i, fr, acc, h, hf, ha => by
    refine ⟨acc ++ [s.extract fr i], ?_, ?_⟩
    · refine Ev.step (f := fun k => spec_l13Cut.l0 k s 32 (acc ++ [s.extract fr i]) ((i + 1 : Nat) : Int) ((i + 1 : Nat) : Int)) (fun k => ?_) ?_
      · show spec_l13Cut.l0 (k + 1) s 32 acc fr i = _
        rw [spec_l13Cut.l0, if_pos (by omega), if_pos (by omega), if_pos (by omega), if_pos (by omega), if_pos (by omega), wrap_small (by omega) (by omega)]
        rfl
      · refine Ev.step (f := fun _ => some (acc ++ [s.extract fr i])) (fun k => ?_) (Ev.now _)
        show spec_l13Cut.l0 (k + 1) s 32 (acc ++ [s.extract fr i]) _ _ = _
        rw [spec_l13Cut.l0, if_neg (by omega)]
    · rw [List.drop_of_length_le (i := i) (by simp; omega)]
      simp [cutL, pre]
  | m + 1, i, fr, acc, h, hf, ha => by
    have hi : i < s.size := by omega
    have hil : i < s.data.toList.length := by simpa using hi
    rw [List.drop_eq_getElem_cons hil, cutL]
    by_cases hc : s.data.toList[i] = 32
    · obtain ⟨res, h1, h2⟩ := cut_ev s hs m (i + 1) (i + 1) (acc ++ [s.extract fr i]) (by omega) (by omega) (by simp; omega)
      refine ⟨res, ?_, ?_⟩
      · refine Ev.step (f := fun k => spec_l13Cut.l0 k s 32 (acc ++ [s.extract fr i]) ((i + 1 : Nat) : Int) ((i + 1 : Nat) : Int)) (fun k => ?_) h1
        show spec_l13Cut.l0 (k + 1) s 32 acc fr i = _
        rw [spec_l13Cut.l0, if_pos (by omega), if_neg (by omega), if_pos (by omega), if_pos (by omega), if_pos (by rw [bt_at s i hi, hc]; rfl), if_pos (by omega), if_pos (by omega), if_pos (by omega), wrap_small (by omega) (by omega)]
        rfl
      · rw [h2, if_pos hc]
        rw [Nat.sub_self, List.take_zero, pre_nil]
        simp [pre]
    · obtain ⟨res, h1, h2⟩ := cut_ev s hs m (i + 1) fr acc (by omega) (by omega) (by omega)
      refine ⟨res, ?_, ?_⟩
      · refine Ev.step (f := fun k => spec_l13Cut.l0 k s 32 acc (fr : Int) ((i + 1 : Nat) : Int)) (fun k => ?_) h1
        show spec_l13Cut.l0 (k + 1) s 32 acc fr i = _
        rw [spec_l13Cut.l0, if_pos (by omega), if_neg (by omega), if_pos (by omega), if_pos (by omega), if_neg (by rw [bt_at s i hi]; intro e; apply hc; apply UInt8.toNat_inj.1; have : (32 : UInt8).toNat = 32 := rfl; omega), wrap_small (by omega) (by omega)]
        rfl
      · rw [h2, if_neg hc, pre_pre]
        rw [show i + 1 - fr = (i - fr) + 1 by omega, List.take_add_one, List.getElem?_drop, show fr + (i - fr) = i by omega, List.getElem?_eq_getElem hil]
        rfl
theorem splitK_cut : ∀ l : List UInt8, Lib.splitK [32] 0 (Lib.count l [32]) l = cutL l
  | [] => rfl
  | c :: r => by
    have ih := splitK_cut r
    by_cases hc : c = 32
    · subst hc
      rw [Lib.count_cons_eq, Nat.add_comm, Lib.splitK, Lib.index_one, Lib.indexByte, cutL, if_pos rfl, ← ih]
      simp
    · rw [Lib.count_cons_ne _ _ _ hc, cutL, if_neg hc, ← ih]
      cases hk : Lib.count r [32] with
      | zero => rfl
      | succ k =>
        obtain ⟨i, hi⟩ := Lib.index_of_count (s := r) (old := [32]) (by omega)
        have hib : Lib.indexByte r 32 = (i : Int) := by rw [← Lib.index_one]; exact hi
        have hi2 : Lib.index (c :: r) [32] = ((i + 1 : Nat) : Int) := by
          rw [Lib.index_one, Lib.indexByte, hib]
          simp [hc]
        rw [Lib.splitK, Lib.splitK, hi, hi2, if_neg (by simp; try omega), if_neg (by simp; try omega)]
        simp [pre]
theorem bytes_lists : ∀ {xs ys : List ByteArray}, xs.map (·.data.toList) = ys.map (·.data.toList) → xs = ys
  | [], [], _ => rfl
  | [], _ :: _, h => by cases h
  | _ :: _, [], h => by cases h
  | x :: xs, y :: ys, h => by
    simp only [List.map_cons, List.cons.injEq] at h
    rw [bytes_lists h.2, ByteArray.ext (Array.ext' h.1)]
theorem l13Cut_ev (s : ByteArray) (hs : s.size ≤ 1048576) : Ev (fun k => spec_l13Cut.f k s 32) (pieces s) := by
  obtain ⟨res, h1, h2⟩ := cut_ev s hs s.size 0 0 [] (by omega) (by omega) (by simp)
  have e : res = pieces s := by
    apply bytes_lists
    rw [h2]
    unfold pieces
    rw [Lib.splitB_data]
    simp only [List.map_nil, List.nil_append, Nat.sub_self, List.take_zero, pre_nil, List.drop_zero]
    exact (splitK_cut _).symm
  subst e
  exact h1
end Go.Proofs.YtojhdfdhfajjjaaDoor.Pr
namespace Go.Proofs.YtojhdfdhfajjjaaDoor.Pr
open Go.RowKit Go.Proofs.YtojhdfdhfajjjaaDoorW.PrintWords Go.Proofs.YtojhdfdhfajjjaaDoorW.PrintLast
def valN : Nat → List UInt8 → Option Nat
  | acc, [] => some acc
  | acc, c :: r => if 48 ≤ c.toNat ∧ c.toNat ≤ 57 then valN (acc * 10 + (c.toNat - 48)) r else none
theorem valN_snoc (c : UInt8) : ∀ (l : List UInt8) (a : Nat), valN a (l ++ [c]) = (valN a l).bind fun v => if 48 ≤ c.toNat ∧ c.toNat ≤ 57 then some (v * 10 + (c.toNat - 48)) else none
  | [], a => by simp [valN]
  | d :: r, a => by
    rw [List.cons_append, valN, valN]
    by_cases h : 48 ≤ d.toNat ∧ d.toNat ≤ 57
    · rw [if_pos h, if_pos h, valN_snoc c r]
    · rw [if_neg h, if_neg h]; rfl
theorem ofNat_digit {d : Nat} (h : d < 10) : (UInt8.ofNat (48 + d)).toNat = 48 + d := by
  rw [UInt8.toNat_ofNat']
  omega
theorem val_dec (u : Nat) : valN 0 (Lib.decDigits u) = some u := by
  induction u using Nat.strongRecOn with
  | _ u ih =>
    rw [Lib.decDigits]
    by_cases h : u < 10
    · rw [dif_pos h, valN, ofNat_digit h, if_pos (by omega), valN]
      congr 1
      omega
    · rw [dif_neg h, valN_snoc, ih (u / 10) (by omega), Option.bind_some, ofNat_digit (by omega), if_pos (by omega)]
      congr 1
      omega
theorem head_dec (u : Nat) (hu : 1 ≤ u) : ∃ c r, Lib.decDigits u = c :: r ∧ 49 ≤ c.toNat ∧ c.toNat ≤ 57 := by
  induction u using Nat.strongRecOn with
  | _ u ih =>
    rw [Lib.decDigits]
    by_cases h : u < 10
    · rw [dif_pos h]
      exact ⟨_, _, rfl, by rw [ofNat_digit h]; omega, by rw [ofNat_digit h]; omega⟩
    · rw [dif_neg h]
      obtain ⟨c, r, h1, h2, h3⟩ := ih (u / 10) (by omega) (by omega)
      exact ⟨c, _, by rw [h1]; rfl, h2, h3⟩
theorem len_dec (u : Nat) (hu : u ≤ 601) : (Lib.decDigits u).length ≤ 3 := by
  rw [Lib.decDigits_length, Lib.nDigits]
  split
  · omega
  · rw [Lib.nDigits]
    split
    · omega
    · rw [Lib.nDigits]
      split
      · omega
      · omega
theorem canon : ∀ (n : Nat) (l : List UInt8) (v : Nat), l.length = n → valN 0 l = some v → (∃ c r, l = c :: r ∧ 49 ≤ c.toNat) → l = Lib.decDigits v := by
  intro n
  induction n with
  | zero =>
    intro l v hl _ hc
    obtain ⟨c, r, rfl, _⟩ := hc
    simp at hl
  | succ n ih =>
    intro l v hl hv hc
    rcases List.eq_nil_or_concat l with rfl | ⟨l', c, rfl⟩
    · simp at hl
    · rw [List.concat_eq_append] at *
      rw [valN_snoc] at hv
      cases hv' : valN 0 l' with
      | none => rw [hv'] at hv; cases hv
      | some v' =>
        rw [hv', Option.bind_some] at hv
        split at hv
        · rename_i hd
          injection hv with hv
          cases l' with
          | nil =>
            obtain ⟨c1, r1, h1, h2⟩ := hc
            simp only [List.nil_append, List.cons.injEq] at h1
            simp only [valN, Option.some.injEq] at hv'
            subst hv'
            rw [Lib.decDigits_one (by omega)]
            rw [List.nil_append]
            congr 1
            apply UInt8.toNat_inj.1
            rw [ofNat_digit (by omega)]
            omega
          | cons c1 r1 =>
            have hc' : ∃ c r, c1 :: r1 = c :: r ∧ 49 ≤ c.toNat := by
              obtain ⟨c2, r2, h1, h2⟩ := hc
              simp only [List.cons_append, List.cons.injEq] at h1
              exact ⟨c1, r1, rfl, by rw [h1.1]; exact h2⟩
            have e := ih (c1 :: r1) v' (by simp at hl ⊢; exact hl) hv' hc'
            have hv1 : 1 ≤ v' := by
              apply Decidable.byContradiction
              intro hz
              have : v' = 0 := by omega
              subst this
              rw [Lib.decDigits_one (by omega)] at e
              obtain ⟨c2, r2, h1, h2⟩ := hc'
              rw [e] at h1
              simp only [List.cons.injEq] at h1
              rw [← h1.1] at h2
              exact absurd h2 (by decide)
            have e2 : Lib.decDigits v = Lib.decDigits (v / 10) ++ [UInt8.ofNat (48 + v % 10)] := by
              conv => lhs; rw [Lib.decDigits]
              rw [dif_neg (by omega)]
            rw [e, e2, show v / 10 = v' by omega]
            congr 2
            apply UInt8.toNat_inj.1
            rw [ofNat_digit (by omega)]
            omega
        · cases hv
def numRes (neg : Bool) : Option Nat → Int × Bool
  | none => (0, false)
  | some v => (if neg then -(v : Int) else v, true)
theorem num_l0 (s : ByteArray) (hs : s.size ≤ 17) (neg : Bool) : ∀ (m i acc : Nat), i + m = s.size → acc < 10 ^ i → Ev (fun k => spec_l13Num.l0 k s neg (acc : Int) (i : Int)) (numRes neg (valN acc (s.data.toList.drop i)))
  | 0, i, acc, h, hb => by
    have hp : (10 : Nat) ^ i ≤ 10 ^ 17 := Nat.pow_le_pow_right (by decide) (by omega)
    refine Ev.step (f := fun _ => some (numRes neg (valN acc (s.data.toList.drop i)))) (fun k => ?_) (Ev.now _)
    show spec_l13Num.l0 (k + 1) s neg acc i = _
    rw [spec_l13Num.l0, if_neg (by omega), List.drop_of_length_le (by simp; omega), valN, wrap_small (by omega) (by omega)]
    cases neg <;> rfl
  | m + 1, i, acc, h, hb => by
    have hi : i < s.size := by omega
    have hil : i < s.data.toList.length := by simpa using hi
    have hp : (10 : Nat) ^ i ≤ 10 ^ 17 := Nat.pow_le_pow_right (by decide) (by omega)
    have hu : (s.data.toList[i]).toNat < 256 := UInt8.toNat_lt _
    rw [List.drop_eq_getElem_cons hil, valN]
    generalize hc : s.data.toList[i] = c at *
    have hbt : bt s (i : Int) = (c.toNat : Int) := by rw [bt_at s i hi, hc]
    by_cases h1 : c.toNat < 48
    · refine Ev.step (f := fun _ => some ((0 : Int), false)) (fun k => ?_) ?_
      · show spec_l13Num.l0 (k + 1) s neg acc i = _
        rw [spec_l13Num.l0, if_pos (by omega), if_pos (by omega), if_pos (by rw [hbt]; omega)]
      · rw [if_neg (by omega)]
        exact Ev.now _
    · by_cases h2 : 57 < c.toNat
      · refine Ev.step (f := fun _ => some ((0 : Int), false)) (fun k => ?_) ?_
        · show spec_l13Num.l0 (k + 1) s neg acc i = _
          rw [spec_l13Num.l0, if_pos (by omega), if_pos (by omega), if_neg (by rw [hbt]; omega), if_pos (by rw [hbt]; omega)]
        · rw [if_neg (by omega)]
          exact Ev.now _
      · rw [if_pos (by omega)]
        have hpw : (10 : Nat) ^ (i + 1) = 10 ^ i * 10 := Nat.pow_succ ..
        refine Ev.step (f := fun k => spec_l13Num.l0 k s neg ((acc * 10 + (c.toNat - 48) : Nat) : Int) ((i + 1 : Nat) : Int)) (fun k => ?_) (num_l0 s hs neg m (i + 1) _ (by omega) (by omega))
        show spec_l13Num.l0 (k + 1) s neg acc i = _
        rw [spec_l13Num.l0, if_pos (by omega), if_pos (by omega), if_neg (by rw [hbt]; omega), if_neg (by rw [hbt]; omega), hbt, wrap_small (n := (acc : Int) * 10) (by omega) (by omega), wrap_small (n := (acc : Int) * 10 + _) (by omega) (by omega), wrap_small (n := (i : Int) + 1) (by omega) (by omega), show (acc : Int) * 10 + ((c.toNat : Int) - 48) % 256 = ((acc * 10 + (c.toNat - 48) : Nat) : Int) by omega]
        rfl
theorem num_j2 (s : ByteArray) (neg : Bool) : Ev (fun k => spec_l13Num.j2 k s neg true) (0, false) :=
  Ev.step (f := fun _ => some (0, false)) (fun k => by show spec_l13Num.j2 (k + 1) s neg true = _; rw [spec_l13Num.j2, if_pos rfl]) (Ev.now _)
theorem num_j2' (s : ByteArray) (neg : Bool) (hs : s.size ≤ 17) : Ev (fun k => spec_l13Num.j2 k s neg false) (numRes neg (valN 0 s.data.toList)) :=
  Ev.step (f := fun k => spec_l13Num.l0 k s neg 0 0) (fun k => by show spec_l13Num.j2 (k + 1) s neg false = _; rw [spec_l13Num.j2, if_neg (by decide)]) (num_l0 s hs neg s.size 0 0 (by omega) (by decide))
theorem num_j1 (s : ByteArray) (neg : Bool) : ∃ x : Int × Bool, Ev (fun k => spec_l13Num.j1 k s neg) x ∧
    (x = (0, false) ∧ (∀ m : Nat, 1 ≤ m → m ≤ 601 → s.data.toList ≠ Lib.decDigits m) ∨
     x = numRes neg (valN 0 s.data.toList) ∧ (s.data.toList = [48] ∨ ∃ c r, s.data.toList = c :: r ∧ c.toNat ≠ 48)) := by
  have hlen : s.data.toList.length = s.size := Array.length_toList
  by_cases h0 : s.size = 0
  · refine ⟨(0, false), Ev.step (f := fun k => spec_l13Num.j2 k s neg true) (fun k => ?_) (num_j2 s neg), .inl ⟨rfl, fun m hm1 hm2 e => ?_⟩⟩
    · show spec_l13Num.j1 (k + 1) s neg = _
      rw [spec_l13Num.j1, if_pos (by omega)]
    · obtain ⟨c, r, h1, _⟩ := head_dec m hm1
      rw [e, h1] at hlen
      simp at hlen
      omega
  · by_cases h17 : 17 < s.size
    · refine ⟨(0, false), Ev.step (f := fun k => spec_l13Num.j2 k s neg true) (fun k => ?_) (num_j2 s neg), .inl ⟨rfl, fun m hm1 hm2 e => ?_⟩⟩
      · show spec_l13Num.j1 (k + 1) s neg = _
        rw [spec_l13Num.j1, if_neg (by omega), if_pos (by omega)]
      · have := len_dec m hm2
        rw [e] at hlen
        omega
    · obtain ⟨c, r, hcr⟩ : ∃ c r, s.data.toList = c :: r := by
        cases hl : s.data.toList with
        | nil => rw [hl] at hlen; simp at hlen; omega
        | cons c r => exact ⟨c, r, rfl⟩
      have hbt : bt s 0 = (c.toNat : Int) := by
        have := bt_at s 0 (by omega)
        simp only [hcr, List.getElem_cons_zero] at this
        exact this
      by_cases h48 : c.toNat = 48
      · by_cases h1 : s.size = 1
        · cases r with
          | cons d r => rw [hcr] at hlen; simp at hlen; omega
          | nil =>
            have hc48 : c = 48 := UInt8.toNat_inj.1 h48
            cases neg with
            | true =>
              refine ⟨(0, false), Ev.step (f := fun k => spec_l13Num.j2 k s true true) (fun k => ?_) (num_j2 s true), .inl ⟨rfl, fun m hm1 hm2 e => ?_⟩⟩
              · show spec_l13Num.j1 (k + 1) s true = _
                rw [spec_l13Num.j1, if_neg (by omega), if_neg (by omega), if_pos (by omega), if_pos (by rw [hbt]; omega), if_neg (by omega)]
              · obtain ⟨c', r', h1', h2', _⟩ := head_dec m hm1
                rw [hcr, h1'] at e
                simp only [List.cons.injEq] at e
                rw [← e.1] at h2'
                omega
            | false =>
              refine ⟨_, Ev.step (f := fun k => spec_l13Num.j2 k s false false) (fun k => ?_) (num_j2' s false (by omega)), .inr ⟨rfl, .inl (by rw [hcr, hc48])⟩⟩
              show spec_l13Num.j1 (k + 1) s false = _
              rw [spec_l13Num.j1, if_neg (by omega), if_neg (by omega), if_pos (by omega), if_pos (by rw [hbt]; omega), if_neg (by omega)]
        · refine ⟨(0, false), Ev.step (f := fun k => spec_l13Num.j2 k s neg true) (fun k => ?_) (num_j2 s neg), .inl ⟨rfl, fun m hm1 hm2 e => ?_⟩⟩
          · show spec_l13Num.j1 (k + 1) s neg = _
            rw [spec_l13Num.j1, if_neg (by omega), if_neg (by omega), if_pos (by omega), if_pos (by rw [hbt]; omega), if_pos (by omega)]
          · obtain ⟨c', r', h1', h2', _⟩ := head_dec m hm1
            rw [hcr, h1'] at e
            simp only [List.cons.injEq] at e
            rw [← e.1] at h2'
            omega
      · refine ⟨_, Ev.step (f := fun k => spec_l13Num.j2 k s neg false) (fun k => ?_) (num_j2' s neg (by omega)), .inr ⟨rfl, .inr ⟨c, r, hcr, h48⟩⟩⟩
        show spec_l13Num.j1 (k + 1) s neg = _
        rw [spec_l13Num.j1, if_neg (by omega), if_neg (by omega), if_pos (by omega), if_neg (by rw [hbt]; omega)]
theorem num_ev (d : ByteArray) : ∃ (n : Int) (ok : Bool), Ev (fun k => spec_l13Num.f k d) (n, ok) ∧ ∀ m : Nat, 1 ≤ m → m ≤ 601 → ((ok = true ∧ n = m) ↔ d.data.toList = Lib.decDigits m) := by
  have hlen : d.data.toList.length = d.size := Array.length_toList
  by_cases h45 : d.size > 0 ∧ bt d 0 = 45
  · obtain ⟨x, hx, hcase⟩ := num_j1 (d.extract 1 d.size) true
    refine ⟨x.1, x.2, ?_, fun m hm1 hm2 => ⟨fun h => ?_, fun h => ?_⟩⟩
    · refine Ev.congr (f := fun k => spec_l13Num.j0 k d true) (fun k => ?_) (Ev.step (f := fun k => spec_l13Num.j1 k (d.extract 1 d.size) true) (fun k => ?_) hx)
      · show spec_l13Num.f k d = _
        unfold spec_l13Num.f
        rw [if_pos (by omega), if_pos (by omega), h45.2]
        rfl
      · show spec_l13Num.j0 (k + 1) d true = _
        rw [spec_l13Num.j0, if_pos rfl, if_pos (by omega)]
    · exfalso
      rcases hcase with ⟨e, _⟩ | ⟨e, _⟩
      · rw [e] at h; exact absurd h.1 (by decide)
      · rw [e] at h
        cases hv : valN 0 (d.extract 1 d.size).data.toList with
        | none => rw [hv] at h; exact absurd h.1 (by decide)
        | some v =>
          rw [hv] at h
          have := h.2
          simp only [numRes, if_true] at this
          omega
    · exfalso
      obtain ⟨c, r, h1, h2, h3⟩ := head_dec m hm1
      have := bt_at d 0 (by omega)
      simp only [h, h1, List.getElem_cons_zero] at this
      have hb : bt d 0 = (c.toNat : Int) := this
      omega
  · obtain ⟨x, hx, hcase⟩ := num_j1 d false
    refine ⟨x.1, x.2, ?_, fun m hm1 hm2 => ⟨fun h => ?_, fun h => ?_⟩⟩
    · refine Ev.congr (f := fun k => spec_l13Num.j0 k d false) (fun k => ?_) (Ev.step (f := fun k => spec_l13Num.j1 k d false) (fun k => ?_) hx)
      · show spec_l13Num.f k d = _
        unfold spec_l13Num.f
        by_cases hz : d.size > 0
        · rw [if_pos (by omega), if_pos (by omega), show (bt d 0 == 45) = false from beq_eq_false_iff_ne.2 (fun e => h45 ⟨hz, e⟩)]
        · rw [if_neg (by omega)]
      · show spec_l13Num.j0 (k + 1) d false = _
        rw [spec_l13Num.j0, if_neg (by decide)]
    · rcases hcase with ⟨e, _⟩ | ⟨e, hc⟩
      · rw [e] at h; exact absurd h.1 (by decide)
      · rw [e] at h
        cases hv : valN 0 d.data.toList with
        | none => rw [hv] at h; exact absurd h.1 (by decide)
        | some v =>
          rw [hv] at h
          have hvm : v = m := by
            have := h.2
            simp only [numRes] at this
            simp at this
            omega
          subst hvm
          rcases hc with hc | ⟨c, r, hcr, hne⟩
          · rw [hc] at hv
            simp [valN] at hv
            omega
          · refine canon _ _ _ rfl hv ⟨c, r, hcr, ?_⟩
            rw [hcr, valN] at hv
            split at hv
            · omega
            · cases hv
    · rcases hcase with ⟨_, hn⟩ | ⟨e, _⟩
      · exact absurd h (hn m hm1 hm2)
      · rw [e, h, val_dec]
        exact ⟨rfl, rfl⟩
theorem valN_le : ∀ (l : List UInt8) (a v : Nat), valN a l = some v → a ≤ v
  | [], a, v, h => by simp only [valN, Option.some.injEq] at h; omega
  | c :: r, a, v, h => by
    rw [valN] at h
    split at h
    · have := valN_le r _ v h
      omega
    · cases h
theorem parse_val : ∀ (l : List UInt8) (a v : Nat), valN a l = some v → v ≤ 1000000 → Lib.parseUint10 a l = .ok v
  | [], a, v, h, hv => by
    simp only [valN, Option.some.injEq] at h
    rw [Lib.parseUint10, h]
  | c :: r, a, v, h, hv => by
    rw [valN] at h
    split at h
    · rename_i hc
      have := valN_le r _ v h
      rw [Lib.parseUint10, if_pos hc, if_neg (by omega), if_neg (by omega)]
      exact parse_val r _ v h hv
    · cases h
theorem numOf_iff (s : ByteArray) (m : Nat) (h1 : 1 ≤ m) (h2 : m ≤ 601) : numOf s = some (m : Int) ↔ (dig s).data.toList = Lib.decDigits m := by
  have hit : Lib.itoa (m : Int) = Lib.decDigits m := Lib.itoa_nonneg m
  constructor
  · intro h
    unfold numOf at h
    split at h
    · rename_i n hn
      split at h
      · rename_i he
        injection h with h
        rw [h, hit] at he
        exact he.symm
      · cases h
    · cases h
  · intro h
    have ha : Lib.atoiAll (dig s).data.toList = .ok (m : Int) := by
      rw [h]
      obtain ⟨c, r, e1, e2, e3⟩ := head_dec m h1
      have hp : Lib.parseMag (Lib.decDigits m) = .ok m := by
        unfold Lib.parseMag
        rw [if_neg (by rw [e1]; simp)]
        exact parse_val _ 0 m (val_dec m) (by omega)
      rw [e1] at hp ⊢
      rw [Lib.atoiAll_plain c r (by omega) (by omega), hp]
      unfold Lib.signless
      simp
      omega
    unfold numOf
    rw [ha]
    simp only []
    rw [if_pos (by rw [hit, h])]
end Go.Proofs.YtojhdfdhfajjjaaDoor.Pr
namespace Go.Proofs.YtojhdfdhfajjjaaDoor.Pr
open Go.RowKit Go.Proofs.YtojhdfdhfajjjaaDoorW.PrintWords Go.Proofs.YtojhdfdhfajjjaaDoorW.PrintLast
def conv (e : S55) : S53 := ⟨bt e.f0 0, e.f1⟩
def readRes : Option Tst → List S53 × Bool
  | none => ([], false)
  | some st => (st.out.map conv, true)
structure StOk (st : Tst) : Prop where
  len : st.out.length ≤ 600
  made0 : 0 ≤ st.made
  made : st.made ≤ st.out.length
  live : st.live.length ≤ st.out.length
  range : ∀ x ∈ st.live, 1 ≤ x ∧ x ≤ st.made
theorem sgn_at {s : ByteArray} {c : UInt8} {r : List UInt8} (h : s.data.toList = c :: r) : (sgn s).toList = [c] := by
  rw [Lib.toList_data]
  unfold sgn
  simp [h]
theorem bt_head {s : ByteArray} {c : UInt8} {r : List UInt8} (h : s.data.toList = c :: r) : bt s 0 = (c.toNat : Int) := by
  have hl : 0 < s.size := by
    have : s.data.toList.length = s.size := Array.length_toList
    rw [h] at this
    simp at this
    omega
  have := bt_at s 0 hl
  simp only [h, List.getElem_cons_zero] at this
  exact this
theorem bt_sgn {s : ByteArray} {c : UInt8} {r : List UInt8} (h : s.data.toList = c :: r) : bt (sgn s) 0 = bt s 0 := by
  have h2 := sgn_at h
  rw [Lib.toList_data] at h2
  rw [bt_head h2, bt_head h]
theorem byte_eq {c d : UInt8} : c = d ↔ (c.toNat : Int) = d.toNat := by
  constructor
  · rintro rfl; rfl
  · intro h; apply UInt8.toNat_inj.1; omega
theorem tsign_in {st : Tst} {s : ByteArray} {n : Int} {st' : Tst} (hst : StOk st) (h : tsign st s n = some st') : 1 ≤ n ∧ n ≤ 601 := by
  have h1 := hst.len
  have h2 := hst.made
  have h3 := hst.made0
  unfold tsign at h
  split at h
  · rename_i hc; omega
  · split at h
    · rename_i hc; have := hst.range n hc.2; omega
    · split at h
      · rename_i hc; have := hst.range n hc.2; omega
      · cases h
theorem tsign_ok {st : Tst} {s : ByteArray} {n : Int} {st' : Tst} (hst : StOk st) (h6 : st.out.length < 600) (h : tsign st s n = some st') : StOk st' := by
  obtain ⟨k1, k2, k3, k4, k5⟩ := hst
  unfold tsign at h
  split at h
  · rename_i hc
    injection h with h
    subst h
    refine ⟨by simp; omega, by dsimp only; omega, by simp; omega, by simp; omega, fun x hx => ?_⟩
    rcases List.mem_append.1 hx with hx | hx
    · have := k5 x hx; dsimp only; omega
    · have := List.mem_singleton.1 hx; dsimp only; omega
  · split at h
    · injection h with h
      subst h
      exact ⟨by simp; omega, k2, by simp; omega, by simp; omega, k5⟩
    · split at h
      · injection h with h
        subst h
        refine ⟨by simp; omega, k2, by simp; omega, ?_, fun x hx => k5 x (List.mem_filter.1 hx).1⟩
        have := List.length_filter_le (fun y => y != n) st.live
        simp only [List.length_append, List.length_singleton]
        omega
      · cases h
theorem tstep_none {st : Tst} {s : ByteArray} {n : Int} {ok : Bool} (hst : StOk st) (hiff : ∀ m : Nat, 1 ≤ m → m ≤ 601 → ((ok = true ∧ n = m) ↔ (dig s).data.toList = Lib.decDigits m)) (h : ok = true → tsign st s n = none) : tstep st s = none := by
  unfold tstep
  split
  · rfl
  · split
    · rfl
    · rename_i n' hn
      split
      · rfl
      · cases ht : tsign st s n' with
        | none => rfl
        | some st' =>
          obtain ⟨a, b⟩ := tsign_in hst ht
          obtain ⟨m, rfl⟩ := Int.eq_ofNat_of_zero_le (show 0 ≤ n' by omega)
          obtain ⟨x, y⟩ := (hiff m (by omega) (by omega)).2 ((numOf_iff s m (by omega) (by omega)).1 hn)
          rw [y] at h
          rw [h x] at ht
          cases ht
theorem tstep_some {st : Tst} {s : ByteArray} {n : Int} {st' : Tst} (hst : StOk st) (hs : s.size ≠ 0) (h6 : st.out.length ≠ 600) (hiff : ∀ m : Nat, 1 ≤ m → m ≤ 601 → ((true = true ∧ n = m) ↔ (dig s).data.toList = Lib.decDigits m)) (h : tsign st s n = some st') : tstep st s = some st' := by
  obtain ⟨a, b⟩ := tsign_in hst h
  obtain ⟨m, rfl⟩ := Int.eq_ofNat_of_zero_le (show 0 ≤ n by omega)
  unfold tstep
  rw [if_neg hs, (numOf_iff s m (by omega) (by omega)).2 ((hiff m (by omega) (by omega)).1 ⟨rfl, rfl⟩)]
  simp only []
  rw [if_neg h6, h]
theorem toList_nil {s : ByteArray} : s.toList = ([] : List UInt8) ↔ s.size = 0 := by
  have h : s.data.toList.length = s.size := Array.length_toList
  rw [Lib.toList_data, ← h]
  exact List.length_eq_zero_iff.symm
set_option maxHeartbeats 1000000 in
theorem read_ev (ws : List ByteArray) (hws : ws.length ≤ 1048577) : ∀ (m i : Nat) (st : Tst), i + m = ws.length → StOk st →
    Ev (fun k => spec_l7Read.l0 k (st.out.map conv) st.made st.live ws (ws.length : Int) (i : Int)) (readRes (tloop (ws.drop i) st))
  | 0, i, st, h, hst => by
    refine Ev.step (f := fun _ => some (st.out.map conv, true)) (fun k => ?_) ?_
    · show spec_l7Read.l0 (k + 1) _ _ _ ws _ _ = _
      rw [spec_l7Read.l0, if_neg (by omega)]
    · rw [tloop_end (by omega)]
      exact Ev.now _
  | m + 1, i, st, h, hst => by
    have hi : i < ws.length := by omega
    rw [tloop_drop hi]
    have hrd : rdOf ByteArray.empty ws (i : Int) = ws[i] := by unfold rdOf; simp [hi]
    generalize ws[i] = s at *
    have no : Ev (fun _ => some (([] : List S53), false)) (readRes none) := Ev.now _
    obtain ⟨k1, k2, k3, k4, k5⟩ := hst
    have hst : StOk st := ⟨k1, k2, k3, k4, k5⟩
    have hml : (st.out.map conv).length = st.out.length := List.length_map ..
    by_cases hbad : s.size = 0 ∨ st.out.length = 600
    · have hts : tstep st s = none := by
        unfold tstep
        rcases hbad with hb | hb
        · rw [if_pos hb]
        · split
          · rfl
          · split
            · rfl
            · first | rfl | rw [if_pos hb]
      rw [hts]
      refine Ev.step (f := fun k => spec_l7Read.j1 k (st.out.map conv) st.made st.live s ws (ws.length : Int) (i : Int) true) (fun k => ?_) (Ev.step (f := fun _ => some (([] : List S53), false)) (fun k => ?_) no)
      · show spec_l7Read.l0 (k + 1) _ _ _ ws _ _ = _
        rw [spec_l7Read.l0, if_pos (by omega), if_pos (by omega), if_pos (by omega), hrd]
        by_cases hz : s.size = 0
        · rw [if_pos (toList_nil.2 hz)]
        · rw [if_neg (fun e => hz (toList_nil.1 e)), hml, decide_eq_true (by omega)]
      · show spec_l7Read.j1 (k + 1) _ _ _ _ ws _ _ true = _
        rw [spec_l7Read.j1, if_pos rfl]
    · have hz : s.size ≠ 0 := fun e => hbad (.inl e)
      have h6 : st.out.length ≠ 600 := fun e => hbad (.inr e)
      obtain ⟨n, ok, hev, hiff⟩ := num_ev (dig s)
      obtain ⟨c, r, hcr⟩ : ∃ c r, s.data.toList = c :: r := by
        cases hl : s.data.toList with
        | nil => have : s.data.toList.length = s.size := Array.length_toList; rw [hl] at this; simp at this; omega
        | cons c r => exact ⟨c, r, rfl⟩
      have hsg := sgn_at hcr
      have hbh := bt_head hcr
      have hcv : ∀ n : Int, conv ⟨sgn s, n⟩ = (⟨bt s 0, n⟩ : S53) := fun n => by unfold conv; rw [bt_sgn hcr]
      refine Ev.step (f := fun k => spec_l7Read.j1 k (st.out.map conv) st.made st.live s ws (ws.length : Int) (i : Int) false) (fun k => ?_) ?_
      · show spec_l7Read.l0 (k + 1) _ _ _ ws _ _ = _
        rw [spec_l7Read.l0, if_pos (by omega), if_pos (by omega), if_pos (by omega), hrd, if_neg (fun e => hz (toList_nil.1 e)), hml, decide_eq_false (by omega)]
      · refine Ev.step (f := fun k => (spec_l13Num.f k (dig s)).bind fun b => if b.2 = true then (if bt s 0 = 43 then spec_l7Read.j2 k (st.out.map conv) st.made st.live b.1 ws (ws.length : Int) (i : Int) (b.1 == wrap64 (st.made + 1)) (bt s 0) b.1 else spec_l7Read.j2 k (st.out.map conv) st.made st.live b.1 ws (ws.length : Int) (i : Int) false (bt s 0) b.1) else some (([] : List S53), false)) (fun k => ?_) (Ev.bind hev ?_)
        · show spec_l7Read.j1 (k + 1) _ _ _ _ ws _ _ false = _
          rw [spec_l7Read.j1, if_neg (by decide), if_pos (by omega)]
          simp only [if_pos (show (0 : Int) < (s.size : Int) by omega)]
          rfl
        · -- the step
          have next : ∀ st', tsign st s n = some st' → ok = true → Ev (fun k => spec_l7Read.l0 k (st'.out.map conv) st'.made st'.live ws (ws.length : Int) ((i + 1 : Nat) : Int)) (readRes (match tstep st s with | none => none | some st' => tloop (ws.drop (i + 1)) st')) := by
            intro st' ht hok
            subst hok
            rw [tstep_some hst hz h6 hiff ht]
            exact read_ev ws hws m (i + 1) st' (by omega) (tsign_ok hst (by omega) ht)
          have stop : (ok = true → tsign st s n = none) → Ev (fun _ => some (([] : List S53), false)) (readRes (match tstep st s with | none => none | some st' => tloop (ws.drop (i + 1)) st')) := by
            intro ht
            rw [tstep_none hst hiff ht]
            exact no
          cases ok with
          | false =>
            refine Ev.congr (f := fun _ => some (([] : List S53), false)) (fun k => ?_) (stop (fun e => by cases e))
            simp
          | true =>
            have hlv : st.live.length ≤ 1000000 := by omega
            have mapc : ∀ n : Int, (st.out ++ [(⟨sgn s, n⟩ : S55)]).map conv = st.out.map conv ++ [(⟨bt s 0, n⟩ : S53)] := fun n => by rw [List.map_append, List.map_cons, List.map_nil, hcv]
            have hwi : wrap64 ((i : Int) + 1) = ((i + 1 : Nat) : Int) := by rw [wrap_small (by omega) (by omega)]; rfl
            by_cases c43 : c = 43
            · have b43 : bt s 0 = 43 := by rw [hbh, c43]; rfl
              by_cases hn : n = st.made + 1
              · have ht : tsign st s n = some ⟨st.out ++ [⟨sgn s, n⟩], st.made + 1, st.live ++ [n]⟩ := by unfold tsign; rw [if_pos ⟨by rw [hsg, c43], hn⟩]
                have N := next _ ht rfl
                refine Ev.congr (f := fun k => spec_l7Read.j2 k (st.out.map conv) st.made st.live n ws (ws.length : Int) (i : Int) true (bt s 0) n) (fun k => ?_) (Ev.step (fun k => ?_) N)
                · dsimp only
                  rw [if_pos rfl, if_pos b43, show (n == wrap64 (st.made + 1)) = true by rw [wrap_small (by omega) (by omega)]; exact beq_iff_eq.2 hn]
                · show spec_l7Read.j2 (k + 1) _ _ _ _ ws _ _ true _ _ = _
                  rw [spec_l7Read.j2, if_pos rfl, if_pos (by omega), if_pos (by rw [hml]; omega), hwi, mapc, ← hn]
              · have ht : tsign st s n = none := by
                  unfold tsign
                  rw [if_neg (fun h => hn h.2), if_neg (fun h => by rw [hsg, c43] at h; exact absurd h.1 (by decide)), if_neg (fun h => by rw [hsg, c43] at h; exact absurd h.1 (by decide))]
                refine Ev.congr (f := fun k => spec_l7Read.j2 k (st.out.map conv) st.made st.live n ws (ws.length : Int) (i : Int) false (bt s 0) n) (fun k => ?_) (Ev.step (f := fun k => spec_l7Read.j3 k (st.out.map conv) st.made st.live n ws (ws.length : Int) (i : Int) false (bt s 0) n) (fun k => ?_) (Ev.step (fun k => ?_) (stop (fun _ => ht))))
                · dsimp only
                  rw [if_pos rfl, if_pos b43, show (n == wrap64 (st.made + 1)) = false by rw [wrap_small (by omega) (by omega)]; exact beq_eq_false_iff_ne.2 hn]
                · show spec_l7Read.j2 (k + 1) _ _ _ _ ws _ _ false _ _ = _
                  rw [spec_l7Read.j2, if_neg (by decide), if_neg (by omega)]
                · show spec_l7Read.j3 (k + 1) _ _ _ _ ws _ _ false _ _ = _
                  rw [spec_l7Read.j3, if_neg (by decide), if_neg (by omega)]
            · have b43 : ¬ bt s 0 = 43 := fun e => c43 (byte_eq.2 (by rw [← hbh, e]; rfl))
              have n43 : ¬ ((sgn s).toList = [43] ∧ n = st.made + 1) := fun h => c43 (by rw [hsg] at h; exact (List.cons.inj h.1).1)
              refine Ev.congr (f := fun k => spec_l7Read.j2 k (st.out.map conv) st.made st.live n ws (ws.length : Int) (i : Int) false (bt s 0) n) (fun k => by dsimp only; rw [if_pos rfl, if_neg b43]) ?_
              by_cases c46 : c = 46
              · have b46 : bt s 0 = 46 := by rw [hbh, c46]; rfl
                refine Ev.step (f := fun k => (spec_l7In.f k st.live n).bind fun t => spec_l7Read.j3 k (st.out.map conv) st.made st.live n ws (ws.length : Int) (i : Int) t (bt s 0) n) (fun k => ?_) (Ev.bind (l7In_ev st.live n hlv) ?_)
                · show spec_l7Read.j2 (k + 1) _ _ _ _ ws _ _ false _ _ = _
                  rw [spec_l7Read.j2, if_neg (by decide), if_pos b46]
                · by_cases hliv : n ∈ st.live
                  · have ht : tsign st s n = some ⟨st.out ++ [⟨sgn s, n⟩], st.made, st.live⟩ := by unfold tsign; rw [if_neg n43, if_pos ⟨by rw [hsg, c46], hliv⟩]
                    have N := next _ ht rfl
                    refine Ev.step (fun k => ?_) N
                    show spec_l7Read.j3 (k + 1) _ _ _ _ ws _ _ (decide (n ∈ st.live)) _ _ = _
                    rw [spec_l7Read.j3, decide_eq_true hliv, if_pos rfl, if_pos (by rw [hml]; omega), hwi, mapc]
                  · have ht : tsign st s n = none := by unfold tsign; rw [if_neg n43, if_neg (fun h => hliv h.2), if_neg (fun h => hliv h.2)]
                    refine Ev.step (fun k => ?_) (stop (fun _ => ht))
                    show spec_l7Read.j3 (k + 1) _ _ _ _ ws _ _ (decide (n ∈ st.live)) _ _ = _
                    rw [spec_l7Read.j3, decide_eq_false hliv, if_neg (by decide), if_neg (by omega)]
              · have b46 : ¬ bt s 0 = 46 := fun e => c46 (byte_eq.2 (by rw [← hbh, e]; rfl))
                have n46 : ¬ ((sgn s).toList = [46] ∧ n ∈ st.live) := fun h => c46 (by rw [hsg] at h; exact (List.cons.inj h.1).1)
                refine Ev.step (f := fun k => spec_l7Read.j3 k (st.out.map conv) st.made st.live n ws (ws.length : Int) (i : Int) false (bt s 0) n) (fun k => ?_) ?_
                · show spec_l7Read.j2 (k + 1) _ _ _ _ ws _ _ false _ _ = _
                  rw [spec_l7Read.j2, if_neg (by decide), if_neg b46]
                · by_cases c45 : c = 45
                  · have b45 : bt s 0 = 45 := by rw [hbh, c45]; rfl
                    by_cases hliv : n ∈ st.live
                    · have ht : tsign st s n = some ⟨st.out ++ [⟨sgn s, n⟩], st.made, st.live.filter (fun y => y != n)⟩ := by unfold tsign; rw [if_neg n43, if_neg n46, if_pos ⟨by rw [hsg, c45], hliv⟩]
                      have N := next _ ht rfl
                      refine Ev.step (f := fun k => (spec_l7In.f k st.live n).bind fun t238 => (if t238 = true then ((spec_l7Without.f k st.live n).bind fun t239 => (if (st.out.map conv).length < 8796093022208 then (spec_l7Read.l0 k (st.out.map conv ++ [(⟨bt s 0, n⟩ : S53)]) st.made t239 ws (ws.length : Int) (wrap64 ((i : Int) + 1))) else (none))) else (some ((([] : List (S53))), false)))) (fun k => ?_) (Ev.bind (l7In_ev st.live n hlv) ?_)
                      · show spec_l7Read.j3 (k + 1) _ _ _ _ ws _ _ false _ _ = _
                        rw [spec_l7Read.j3, if_neg (by decide), if_pos b45]
                      · refine Ev.congr (fun k => ?_) (Ev.bind (f := fun k t239 => spec_l7Read.l0 k (st.out.map conv ++ [(⟨bt s 0, n⟩ : S53)]) st.made t239 ws (ws.length : Int) ((i + 1 : Nat) : Int)) (l7Without_ev st.live n hlv) ?_)
                        · try dsimp only
                          rw [decide_eq_true hliv, if_pos rfl]
                          simp only [if_pos (show (st.out.map conv).length < 8796093022208 by rw [hml]; omega), hwi]
                        · dsimp only at N
                          rw [mapc] at N
                          exact N
                    · have ht : tsign st s n = none := by unfold tsign; rw [if_neg n43, if_neg n46, if_neg (fun h => hliv h.2)]
                      refine Ev.step (f := fun k => (spec_l7In.f k st.live n).bind fun t238 => (if t238 = true then ((spec_l7Without.f k st.live n).bind fun t239 => (if (st.out.map conv).length < 8796093022208 then (spec_l7Read.l0 k (st.out.map conv ++ [(⟨bt s 0, n⟩ : S53)]) st.made t239 ws (ws.length : Int) (wrap64 ((i : Int) + 1))) else (none))) else (some ((([] : List (S53))), false)))) (fun k => ?_) (Ev.bind (l7In_ev st.live n hlv) (Ev.congr (fun k => ?_) (stop (fun _ => ht))))
                      · show spec_l7Read.j3 (k + 1) _ _ _ _ ws _ _ false _ _ = _
                        rw [spec_l7Read.j3, if_neg (by decide), if_pos b45]
                      · try dsimp only
                        rw [decide_eq_false hliv, if_neg (by decide)]
                  · have b45 : ¬ bt s 0 = 45 := fun e => c45 (byte_eq.2 (by rw [← hbh, e]; rfl))
                    have ht : tsign st s n = none := by unfold tsign; rw [if_neg n43, if_neg n46, if_neg (fun h => c45 (by rw [hsg] at h; exact (List.cons.inj h.1).1))]
                    refine Ev.step (fun k => ?_) (stop (fun _ => ht))
                    show spec_l7Read.j3 (k + 1) _ _ _ _ ws _ _ false _ _ = _
                    rw [spec_l7Read.j3, if_neg (by decide), if_neg b45]
theorem l7Read_ev (a0 : ByteArray) (hs : a0.size ≤ 1048576) : Ev (fun k => spec_l7Read.f k a0) ((toldOf a0).1.map conv, (toldOf a0).2.2) := by
  by_cases h : a0.toList = [45]
  · refine Ev.congr (f := fun _ => some (([] : List S53), true)) (fun k => ?_) ?_
    · unfold spec_l7Read.f
      rw [Option.bind_some, if_pos h]
    · unfold toldOf
      rw [if_pos h]
      exact Ev.now _
  · have hpl := pieces_length a0
    have hc := Lib.countB_le ⟨#[32]⟩ (by decide) a0.size a0 (Nat.le_refl _)
    have R := read_ev (pieces a0) (by omega) (pieces a0).length 0 ⟨[], 0, []⟩ (by omega) ⟨by simp, by simp, by simp, by simp, by simp⟩
    refine Ev.congr (f := fun k => (spec_l13Cut.f k a0 32).bind fun t => spec_l7Read.l0 k [] 0 [] t (t.length : Int) 0) (fun k => ?_) (Ev.bind (l13Cut_ev a0 hs) ?_)
    · unfold spec_l7Read.f
      rw [Option.bind_some, if_neg h]
    · unfold toldOf
      rw [if_neg h]
      rw [List.drop_zero] at R
      cases ht : tloop (pieces a0) ⟨[], 0, []⟩ with
      | none => rw [ht] at R; exact R
      | some st => rw [ht] at R; exact R
end Go.Proofs.YtojhdfdhfajjjaaDoor.Pr
namespace Go.Proofs.YtojhdfdhfajjjaaDoor.Pr
open Go.RowKit Go.Proofs.YtojhdfdhfajjjaaDoorW.PrintWords Go.Proofs.YtojhdfdhfajjjaaDoorW.PrintLast Go.Proofs.YtojhdfdhfajjjaaDoorW.PrintMore
inductive Good : List S55 → Nat → List Int → Prop
  | nil : Good [] 0 []
  | make {o : List S55} {m : Nat} {l : List Int} {s : ByteArray} : Good o m l → s.toList = [43] → Good (o ++ [⟨s, ((m + 1 : Nat) : Int)⟩]) (m + 1) (l ++ [((m + 1 : Nat) : Int)])
  | use {o : List S55} {m : Nat} {l : List Int} {s : ByteArray} {n : Int} : Good o m l → s.toList = [46] → n ∈ l → Good (o ++ [⟨s, n⟩]) m l
  | kill {o : List S55} {m : Nat} {l : List Int} {s : ByteArray} {n : Int} : Good o m l → s.toList = [45] → n ∈ l → Good (o ++ [⟨s, n⟩]) m (l.filter (fun y => y != n))
theorem Good.range {o : List S55} {m : Nat} {l : List Int} (h : Good o m l) : ∀ x ∈ l, 1 ≤ x ∧ x ≤ m := by
  induction h with
  | nil => intro x hx; cases hx
  | make _ _ ih =>
    intro x hx
    rcases List.mem_append.1 hx with hx | hx
    · have := ih x hx; omega
    · have := List.mem_singleton.1 hx; omega
  | use _ _ _ ih => exact ih
  | kill _ _ _ ih => intro x hx; exact ih x (List.mem_filter.1 hx).1
theorem Good.made {o : List S55} {m : Nat} {l : List Int} (h : Good o m l) : m ≤ o.length ∧ l.length ≤ m := by
  induction h with
  | nil => simp
  | make _ _ ih => simp; omega
  | use _ _ _ ih => simp; omega
  | kill _ _ _ ih =>
    refine ⟨by simp; omega, Nat.le_trans (List.length_filter_le _ _) ih.2⟩
def StepAt (o : List S55) (i M : Nat) : Prop := ∃ (e : S55) (m : Nat) (l : List Int), o[i]? = some e ∧ o.take (i + 1) = o.take i ++ [e] ∧ Good (o.take i) m l ∧ m ≤ M ∧
  ((e.f0.toList = [43] ∧ e.f1 = ((m + 1 : Nat) : Int) ∧ m + 1 ≤ M ∧ Good (o.take (i + 1)) (m + 1) (l ++ [((m + 1 : Nat) : Int)])) ∨
   (e.f0.toList = [46] ∧ e.f1 ∈ l ∧ Good (o.take (i + 1)) m l) ∨
   (e.f0.toList = [45] ∧ e.f1 ∈ l ∧ Good (o.take (i + 1)) m (l.filter (fun y => y != e.f1))))
theorem StepAt.snoc {o : List S55} {i M M' : Nat} {e' : S55} (h : StepAt o i M) (hi : i < o.length) (hM : M ≤ M') : StepAt (o ++ [e']) i M' := by
  obtain ⟨e, m, l, h1, h2, h3, h4, h5⟩ := h
  refine ⟨e, m, l, ?_, ?_, ?_, by omega, ?_⟩
  · rw [List.getElem?_append_left hi]; exact h1
  · rw [List.take_append_of_le_length (by omega), List.take_append_of_le_length (by omega)]; exact h2
  · rw [List.take_append_of_le_length (by omega)]; exact h3
  · rw [List.take_append_of_le_length (by omega)]
    rcases h5 with h | h | h
    · exact .inl ⟨h.1, h.2.1, by omega, h.2.2.2⟩
    · exact .inr (.inl h)
    · exact .inr (.inr h)
theorem take_end {o : List S55} {e : S55} : (o ++ [e]).take o.length = o ∧ (o ++ [e]).take (o.length + 1) = o ++ [e] ∧ (o ++ [e])[o.length]? = some e :=
  ⟨by simp, by rw [List.take_of_length_le (by simp)], by simp⟩
theorem Good.step {o : List S55} {m : Nat} {l : List Int} (h : Good o m l) : ∀ i, i < o.length → StepAt o i m := by
  induction h with
  | nil => intro i hi; simp at hi
  | @make o m l s g hs ih =>
    intro i hi
    by_cases h : i < o.length
    · exact (ih i h).snoc h (by omega)
    · simp at hi
      obtain rfl : i = o.length := by omega
      obtain ⟨t1, t2, t3⟩ := @take_end o ⟨s, ((m + 1 : Nat) : Int)⟩
      refine ⟨_, m, l, t3, by rw [t1, t2], by rw [t1]; exact g, by omega, .inl ⟨hs, rfl, by omega, by rw [t2]; exact g.make hs⟩⟩
  | @use o m l s n g hs hn ih =>
    intro i hi
    by_cases h : i < o.length
    · exact (ih i h).snoc h (by omega)
    · simp at hi
      obtain rfl : i = o.length := by omega
      obtain ⟨t1, t2, t3⟩ := @take_end o ⟨s, n⟩
      refine ⟨_, m, l, t3, by rw [t1, t2], by rw [t1]; exact g, by omega, .inr (.inl ⟨hs, hn, by rw [t2]; exact g.use hs hn⟩)⟩
  | @kill o m l s n g hs hn ih =>
    intro i hi
    by_cases h : i < o.length
    · exact (ih i h).snoc h (by omega)
    · simp at hi
      obtain rfl : i = o.length := by omega
      obtain ⟨t1, t2, t3⟩ := @take_end o ⟨s, n⟩
      refine ⟨_, m, l, t3, by rw [t1, t2], by rw [t1]; exact g, by omega, .inr (.inr ⟨hs, hn, by rw [t2]; exact g.kill hs hn⟩)⟩
def lvset1 (xs : List S42) (i : Int) (e : S55) : List S42 := if e.f0.toList = [43] then xs ++ [⟨i, i, -1⟩] else lvset xs i e
def lvgo : List S55 → Int → List S42 → List S42
  | [], _, xs => xs
  | e :: r, i, xs => lvgo r (i + 1) (lvset1 xs i e)
def lvs (o : List S55) : List S42 := lvgo o 0 []
theorem lvgo_snoc (e : S55) : ∀ (o : List S55) (i : Int) (xs : List S42), lvgo (o ++ [e]) i xs = lvset1 (lvgo o i xs) (i + o.length) e
  | [], i, xs => by simp [lvgo]
  | a :: r, i, xs => by
    rw [List.cons_append, lvgo, lvgo, lvgo_snoc e r]
    congr 1
    simp only [List.length_cons]; omega
theorem lvs_snoc (o : List S55) (e : S55) : lvs (o ++ [e]) = lvset1 (lvs o) o.length e := by
  unfold lvs
  rw [lvgo_snoc]
  congr 1
  omega
theorem lvset_46 {xs : List S42} {i : Int} {e : S55} (h : e.f0.toList = [46]) : lvset xs i e = xs.set (e.f1 - 1).toNat ⟨(rd_T42 xs (e.f1 - 1)).f0, i, (rd_T42 xs (e.f1 - 1)).f2⟩ := by
  unfold lvset; rw [if_neg (by rw [h]; decide), if_pos h]
theorem lvset_45 {xs : List S42} {i : Int} {e : S55} (h : e.f0.toList = [45]) : lvset xs i e = xs.set (e.f1 - 1).toNat ⟨(rd_T42 xs (e.f1 - 1)).f0, (rd_T42 xs (e.f1 - 1)).f1, i⟩ := by
  unfold lvset; rw [if_neg (by rw [h]; decide), if_neg (by rw [h]; decide), if_pos h]
theorem lvset1_43 {xs : List S42} {i : Int} {e : S55} (h : e.f0.toList = [43]) : lvset1 xs i e = xs ++ [⟨i, i, -1⟩] := by
  unfold lvset1; rw [if_pos h]
theorem lvset1_46 {xs : List S42} {i : Int} {e : S55} (h : e.f0.toList = [46]) : lvset1 xs i e = xs.set (e.f1 - 1).toNat ⟨(rd_T42 xs (e.f1 - 1)).f0, i, (rd_T42 xs (e.f1 - 1)).f2⟩ := by
  unfold lvset1; rw [if_neg (by rw [h]; decide), lvset_46 h]
theorem lvset1_45 {xs : List S42} {i : Int} {e : S55} (h : e.f0.toList = [45]) : lvset1 xs i e = xs.set (e.f1 - 1).toNat ⟨(rd_T42 xs (e.f1 - 1)).f0, (rd_T42 xs (e.f1 - 1)).f1, i⟩ := by
  unfold lvset1; rw [if_neg (by rw [h]; decide), lvset_45 h]
theorem Good.lvs_length {o : List S55} {m : Nat} {l : List Int} (h : Good o m l) : (lvs o).length = m := by
  induction h with
  | nil => rfl
  | make g hs ih => rw [lvs_snoc, lvset1_43 hs]; simp [ih]
  | use g hs hn ih => rw [lvs_snoc, lvset1_46 hs]; simp [ih]
  | kill g hs hn ih => rw [lvs_snoc, lvset1_45 hs]; simp [ih]
structure LvOk (n : Nat) (l : List Int) (j : Nat) (L : S42) : Prop where
  born : 0 ≤ L.f0
  used : L.f0 ≤ L.f1
  un : L.f1 < n
  dn : L.f2 < n
  d1 : -1 ≤ L.f2
  ud : 0 ≤ L.f2 → L.f1 < L.f2
  live : L.f2 < 0 ↔ ((j + 1 : Nat) : Int) ∈ l
theorem rd_get {xs : List S42} {j : Nat} {L : S42} (h : xs[j]? = some L) : rd_T42 xs (j : Int) = L := by
  unfold rd_T42
  rw [List.getD_eq_getElem?_getD, Int.toNat_natCast, h]
  rfl
theorem Good.life {o : List S55} {m : Nat} {l : List Int} (h : Good o m l) : ∀ (j : Nat) (L : S42), (lvs o)[j]? = some L → LvOk o.length l j L := by
  induction h with
  | nil => intro j L h; simp [lvs, lvgo] at h
  | @make o m l s g hs ih =>
    intro j L h
    have hl := g.lvs_length
    rw [lvs_snoc, lvset1_43 hs] at h
    by_cases hj : j < m
    · rw [List.getElem?_append_left (by omega)] at h
      obtain ⟨a, b, c, d, e, f, k⟩ := ih j L h
      refine ⟨a, b, by simp; omega, by simp; omega, e, f, k.trans ?_⟩
      simp only [List.mem_append, List.mem_singleton]
      constructor
      · exact .inl
      · rintro (h | h)
        · exact h
        · omega
    · have : j < m + 1 := by
        have := (List.getElem?_eq_some_iff.1 h).1
        simpa [hl] using this
      obtain rfl : j = m := by omega
      rw [List.getElem?_append_right (by omega), hl] at h
      simp at h
      subst h
      exact ⟨by simp, by simp, by simp; omega, by simp; omega, by simp, by simp, by simp⟩
  | @use o m l s n g hs hn ih =>
    intro j L h
    have hr := g.range _ hn
    have hl := g.lvs_length
    rw [lvs_snoc, lvset1_46 hs] at h
    dsimp only at h
    rw [List.getElem?_set] at h
    by_cases hj : (n - 1).toNat = j
    · rw [if_pos hj, if_pos (by omega)] at h
      injection h with h
      obtain ⟨L0, h0⟩ : ∃ L0, (lvs o)[j]? = some L0 := ⟨_, List.getElem?_eq_getElem (by omega)⟩
      obtain ⟨a, b, c, d, e, f, k⟩ := ih j L0 h0
      rw [show n - 1 = (j : Int) by omega, rd_get h0] at h
      have hneg : L0.f2 < 0 := k.2 (by rw [show ((j + 1 : Nat) : Int) = n by omega]; exact hn)
      subst h
      exact ⟨a, by dsimp only; omega, by simp; omega, by simp; omega, e, by dsimp only; omega, k⟩
    · rw [if_neg hj] at h
      obtain ⟨a, b, c, d, e, f, k⟩ := ih j L h
      exact ⟨a, b, by simp; omega, by simp; omega, e, f, k⟩
  | @kill o m l s n g hs hn ih =>
    intro j L h
    have hr := g.range _ hn
    have hl := g.lvs_length
    rw [lvs_snoc, lvset1_45 hs] at h
    dsimp only at h
    rw [List.getElem?_set] at h
    by_cases hj : (n - 1).toNat = j
    · rw [if_pos hj, if_pos (by omega)] at h
      injection h with h
      obtain ⟨L0, h0⟩ : ∃ L0, (lvs o)[j]? = some L0 := ⟨_, List.getElem?_eq_getElem (by omega)⟩
      obtain ⟨a, b, c, d, e, f, k⟩ := ih j L0 h0
      rw [show n - 1 = (j : Int) by omega, rd_get h0] at h
      have hneg : L0.f2 < 0 := k.2 (by rw [show ((j + 1 : Nat) : Int) = n by omega]; exact hn)
      subst h
      refine ⟨a, b, by simp; omega, by simp; omega, by dsimp only; omega, by dsimp only; omega, ?_⟩
      dsimp only
      constructor
      · intro; omega
      · intro hm
        have := (List.mem_filter.1 hm).2
        simp only [bne_iff_ne] at this
        omega
    · rw [if_neg hj] at h
      obtain ⟨a, b, c, d, e, f, k⟩ := ih j L h
      refine ⟨a, b, by simp; omega, by simp; omega, e, f, k.trans ?_⟩
      rw [List.mem_filter]
      constructor
      · intro h; exact ⟨h, by simp only [bne_iff_ne]; omega⟩
      · exact fun h => h.1
end Go.Proofs.YtojhdfdhfajjjaaDoor.Pr
namespace Go.Proofs.YtojhdfdhfajjjaaDoor.Pr
open Go.RowKit Go.Proofs.YtojhdfdhfajjjaaDoorW.PrintWords Go.Proofs.YtojhdfdhfajjjaaDoorW.PrintLast Go.Proofs.YtojhdfdhfajjjaaDoorW.PrintMore
theorem bt_sign {s : ByteArray} {c : UInt8} (h : s.toList = [c]) : bt s 0 = (c.toNat : Int) := bt_head (by rw [← Lib.toList_data]; exact h)
theorem rd59_at {o : List S55} {i : Nat} {e : S55} (h : o[i]? = some e) : rd_T53 (o.map conv) (i : Int) = conv e := by
  unfold rd_T53
  rw [List.getD_eq_getElem?_getD, Int.toNat_natCast, List.getElem?_map, h]
  rfl
theorem conv_43 {e : S55} (h : e.f0.toList = [43]) : (conv e).f0 = 43 := bt_sign h
theorem conv_46 {e : S55} (h : e.f0.toList = [46]) : (conv e).f0 = 46 := bt_sign h
theorem conv_45 {e : S55} (h : e.f0.toList = [45]) : (conv e).f0 = 45 := bt_sign h
theorem conv_f1 (e : S55) : (conv e).f1 = e.f1 := rfl
theorem lives_go {o : List S55} {m : Nat} {l : List Int} (h : Good o m l) (hl : o.length ≤ 1000000) : ∀ (d i : Nat), i + d = o.length →
    Ev (fun k => spec_l7Lives.l0 k (lvs (o.take i)) (o.map conv) ((o.map conv).length : Int) (i : Int)) (lvs o)
  | 0, i, hi => by
    refine Ev.step (f := fun _ => some (lvs o)) (fun k => ?_) (Ev.now _)
    show spec_l7Lives.l0 (k + 1) _ _ _ _ = _
    rw [spec_l7Lives.l0, if_neg (by simp; omega), List.take_of_length_le (by omega)]
  | d + 1, i, hi => by
    obtain ⟨e, m', l', h1, h2, h3, h4, h5⟩ := h.step i (by omega)
    have ih := lives_go h hl d (i + 1) (by omega)
    have hm := h3.made
    have hll := h3.lvs_length
    simp only [List.length_take] at hm
    refine Ev.step (fun k => ?_) ih
    show spec_l7Lives.l0 (k + 1) _ _ _ _ = _
    rw [spec_l7Lives.l0, if_pos (by simp; omega), if_pos (by omega), if_pos (by simp; omega), rd59_at h1, wrap_up (by omega), h2, lvs_snoc, List.length_take, Nat.min_eq_left (by omega)]
    rcases h5 with ⟨hs, _⟩ | ⟨hs, hn, _⟩ | ⟨hs, hn, _⟩
    · rw [if_pos (conv_43 hs), if_pos (by omega), lvset1_43 hs]
    · have hr := h3.range _ hn
      have hw : wrap64 (e.f1 - 1) = e.f1 - 1 := wrap_small (by omega) (by omega)
      rw [if_neg (by rw [conv_46 hs]; decide), if_pos (conv_46 hs), conv_f1, hw, if_pos (by omega), if_pos (by omega), lvset1_46 hs]
    · have hr := h3.range _ hn
      have hw : wrap64 (e.f1 - 1) = e.f1 - 1 := wrap_small (by omega) (by omega)
      rw [if_neg (by rw [conv_45 hs]; decide), if_neg (by rw [conv_45 hs]; decide), if_pos (conv_45 hs), conv_f1, hw, if_pos (by omega), if_pos (by omega), lvset1_45 hs]
theorem lives_ev {o : List S55} {m : Nat} {l : List Int} (h : Good o m l) (hl : o.length ≤ 1000000) : Ev (fun k => spec_l7Lives.f k (o.map conv)) (lvs o) :=
  lives_go h hl o.length 0 (by omega)
def TG (st : Tst) : Prop := ∃ m : Nat, st.made = (m : Int) ∧ Good st.out m st.live
theorem tsign_good {st st' : Tst} {s : ByteArray} {n : Int} (g : TG st) (h : tsign st s n = some st') : TG st' := by
  obtain ⟨m, hm, g⟩ := g
  unfold tsign at h
  split at h
  · rename_i hc
    injection h with h
    subst h
    obtain ⟨hs, hn⟩ := hc
    refine ⟨m + 1, by dsimp only; omega, ?_⟩
    have e : n = ((m + 1 : Nat) : Int) := by omega
    rw [e]
    exact g.make hs
  · split at h
    · rename_i hc
      injection h with h
      subst h
      exact ⟨m, hm, g.use hc.1 hc.2⟩
    · split at h
      · rename_i hc
        injection h with h
        subst h
        exact ⟨m, hm, g.kill hc.1 hc.2⟩
      · cases h
theorem tsign_len {st st' : Tst} {s : ByteArray} {n : Int} (h : tsign st s n = some st') : st'.out.length = st.out.length + 1 := by
  unfold tsign at h
  split at h
  · injection h with h; subst h; simp
  · split at h
    · injection h with h; subst h; simp
    · split at h
      · injection h with h; subst h; simp
      · cases h
theorem tloop_good : ∀ (ws : List ByteArray) (st st' : Tst), TG st → st.out.length ≤ 600 → tloop ws st = some st' → TG st' ∧ st'.out.length ≤ 600
  | [], st, st', g, hl, h => by
    rw [tloop] at h
    injection h with h
    subst h
    exact ⟨g, hl⟩
  | s :: r, st, st', g, hl, h => by
    rw [tloop] at h
    cases hs : tstep st s with
    | none => rw [hs] at h; cases h
    | some st1 =>
      rw [hs] at h
      unfold tstep at hs
      split at hs
      · cases hs
      · split at hs
        · cases hs
        · split at hs
          · cases hs
          · exact tloop_good r st1 st' (tsign_good g hs) (by have := tsign_len hs; omega) h
theorem told_good (a0 : ByteArray) : ∃ (m : Nat) (l : List Int), Good (toldOf a0).1 m l ∧ (toldOf a0).2.1 = (m : Int) ∧ (toldOf a0).1.length ≤ 600 := by
  unfold toldOf
  split
  · exact ⟨0, [], .nil, rfl, by simp⟩
  · split
    · exact ⟨0, [], .nil, rfl, by simp⟩
    · rename_i st hst
      obtain ⟨⟨m, hm, g⟩, hl⟩ := tloop_good _ _ _ ⟨0, rfl, .nil⟩ (by simp) hst
      exact ⟨m, st.live, g, hm, hl⟩
end Go.Proofs.YtojhdfdhfajjjaaDoor.Pr
namespace Go.Proofs.YtojhdfdhfajjjaaDoor.Pr
open Go.RowKit Go.Proofs.YtojhdfdhfajjjaaDoorW.PrintWords Go.Proofs.YtojhdfdhfajjjaaDoorW.PrintLast Go.Proofs.YtojhdfdhfajjjaaDoorW.PrintMore
theorem ofLives_ev (a0 : ByteArray) (hs : a0.size ≤ 1048576) : Ev (fun k => spec_LivesOf.f k a0) (if (toldOf a0).2.2 = true then (lvs (toldOf a0).1, true) else ([], false)) := by
  obtain ⟨m, l, g, hm, hl⟩ := told_good a0
  unfold spec_LivesOf.f
  refine Ev.bind (l7Read_ev a0 hs) ?_
  dsimp only
  split
  · refine Ev.bind (lives_ev g (by omega)) (Ev.now _)
  · exact Ev.now _
theorem ofLives_len (a0 : ByteArray) : (if (toldOf a0).2.2 = true then (lvs (toldOf a0).1, true) else (([], false) : List S42 × Bool)).1.length ≤ 600 := by
  obtain ⟨m, l, g, hm, hl⟩ := told_good a0
  have := g.lvs_length
  have := g.made
  split
  · dsimp only; omega
  · simp
end Go.Proofs.YtojhdfdhfajjjaaDoor.Pr
namespace Go.Proofs.YtojhdfdhfajjjaaDoor.Pr
open Go.RowKit Go.Proofs.YtojhdfdhfajjjaaDoorW.PrintWords Go.Proofs.YtojhdfdhfajjjaaDoorW.PrintLast Go.Proofs.YtojhdfdhfajjjaaDoorW.PrintMore
attribute [local go_sem] max2_int min2_int max_two min_two max_three min_three max_four min_four   -- for this text's walks alone
set_option linter.unusedVariables false
set_option linter.unusedSimpArgs false
mutual
def spec_l13Dec.l0 : Nat → Int → ByteArray → Option (ByteArray)
 | 0, _, _ => none
 | k + 1, x0, x3 => if x0 > 9 then ((some (([(wrap64 (48 + (Int.tmod x0 10))) % 256] : List Int) : List Int)).bind fun y102 => (if (strOfNums y102).size + x3.size ≤ 9223372036854775807 then (spec_l13Dec.l0 k (wrap64 (Int.tdiv x0 10)) ((strOfNums y102) ++ x3)) else (none))) else ((some (([(wrap64 (48 + x0)) % 256] : List Int) : List Int)).bind fun y105 => (if (strOfNums y105).size + x3.size ≤ 9223372036854775807 then (some ((strOfNums y105) ++ x3)) else (none)))
def spec_l13Dec.f : Nat → Int → Option (ByteArray)
 | 0, _ => none
 | k + 1, a0 => if a0 < (-9223372036854775807) then (some (⟨#[45, 57, 50, 50, 51, 51, 55, 50, 48, 51, 54, 56, 53, 52, 55, 55, 53, 56, 48, 56]⟩ : ByteArray)) else (if a0 < 0 then ((spec_l13Dec.f k (wrap64 (-a0))).bind fun t101 => (if 1 + t101.size ≤ 9223372036854775807 then (some ((⟨#[45]⟩ : ByteArray) ++ t101)) else (none))) else (spec_l13Dec.l0 k a0 (⟨#[]⟩ : ByteArray)))
end
set_option maxHeartbeats 8000000 in
set_option maxRecDepth 100000 in
theorem spec_l13Dec.calls (k : Nat) : ∀ (a0 : Int) (r : ByteArray) (w : World) (h : spec_l13Dec.f k a0 = some r),
  Calls Tryd.prog 18 #[.int .i64 a0] w fun e w' => e = .returned (.string r) ∧ Below w.heap.size w w' := by
 induction k using Nat.strongRecOn with
 | _ k ih =>
 intro a0 r w h
 cases k with
 | zero => exact absurd h (by simp [spec_l13Dec.f])
 | succ k =>
 simp only [spec_l13Dec.f] at h
 have HB := Az.mk (Below.refl w.heap.size w)
 have H : (if a0 < (-9223372036854775807) then (some (⟨#[45, 57, 50, 50, 51, 51, 55, 50, 48, 51, 54, 56, 53, 52, 55, 55, 53, 56, 48, 56]⟩ : ByteArray)) else (if a0 < 0 then ((spec_l13Dec.f k (wrap64 (-a0))).bind fun t101 => (if 1 + t101.size ≤ 9223372036854775807 then (some ((⟨#[45]⟩ : ByteArray) ++ t101)) else (none))) else (spec_l13Dec.l0 k a0 (⟨#[]⟩ : ByteArray)))) = some r := h
 clear h
 by_cases c2 : a0 < (-9223372036854775807)
 ·rw [if_pos c2] at H
  have c2b0 : decide (a0 < (-9223372036854775807)) = true := decide_eq_true c2
  clear c2
  obtain rfl := Option.some.inj H
  go_enter Tryd.func18, Tryd.ntmps18
  go_wp2
  go_ret
  exact ⟨by first | rfl | (simp [errW_none, errW_some] <;> rfl) | (simp [*, errW_none, errW_some] <;> rfl), by repeat (first | (with_reducible first|exact HB.out|apply bA|apply bN|apply bD) | exact HB.out)⟩
 ·rw [if_neg c2] at H
  have c2b0 : decide (a0 < (-9223372036854775807)) = false := decide_eq_false c2
  clear c2
  by_cases c3 : a0 < 0
  ·rw [if_pos c3] at H
   have c3b0 : decide (a0 < 0) = true := decide_eq_true c3
   clear c3
   replace H := Option.bind_eq_some_iff.mp H
   obtain ⟨t101, A40, H⟩ := H
   replace H : (if 1 + t101.size ≤ 9223372036854775807 then (some ((⟨#[45]⟩ : ByteArray) ++ t101)) else (none)) = some r := H
   have A4 := Az.mk A40
   clear A40
   by_cases c5 : 1 + t101.size ≤ 9223372036854775807
   ·rw [if_pos c5] at H
    have c5b0 := eq_true c5
    have c5b1 : decide (1 + t101.size ≤ 9223372036854775807) = true := decide_eq_true c5
    try have c5b2 : (9223372036854775807 < 1 + t101.size) = False := eq_false (Nat.not_lt.2 c5)
    obtain rfl := Option.some.inj H
    go_enter Tryd.func18, Tryd.ntmps18
    go_wp2_with (first | ((with_reducible refine gate_callee (f := 18) rfl ?_); refine goesL_ (some 10) rfl rfl Tryd.func18 (by kernel_rfl) rfl #[.int .i64 (wrap64 (-a0))] rfl (by (try simp only [List.map_toArray, List.map_cons, List.map_nil]); first | done | rfl | (simp only [List.length_drop, List.length_take]; rfl)) ?_; (with_reducible refine (ih k (by omega) (wrap64 (-a0)) t101 _ A4.out).mono ?_); rintro e w6 ⟨rfl, hb⟩; refine ⟨_, rfl, ?_⟩; have n0_ := Az.mk (bS (by repeat first|exact HB.out|apply bA|apply bN|apply bD) hb); clear HB; have HB := n0_; clear n0_; (try clear hb); (try clear hb2); (try clear hk); (try clear hi)))
    go_ret
    exact ⟨by first | rfl | (simp [errW_none, errW_some] <;> rfl) | (simp [*, errW_none, errW_some] <;> rfl), by repeat (first | (with_reducible first|exact HB.out|apply bA|apply bN|apply bD) | exact HB.out)⟩
   ·rw [if_neg c5] at H
    exact absurd H (by simp)
  ·rw [if_neg c3] at H
   have c3b0 : decide (a0 < 0) = false := decide_eq_false c3
   clear c3
   have H' := Az.mk H
   clear H
   go_enter Tryd.func18, Tryd.ntmps18
   go_wp2
   go_loopg [0, 3] k (fun kq v0 v3 w' => ∃ (x0_1 : Int) (x3_1 : ByteArray), v0 = .int .i64 x0_1 ∧ v3 = .string x3_1 ∧ Az (spec_l13Dec.l0 kq x0_1 x3_1 = some r) ∧ Az (kq ≤ k) ∧ Az (Below w.heap.size w w'))
   case atStart => exact ⟨(a0), ((⟨#[]⟩ : ByteArray)), (by first | rfl | (simp; done) | (simp [*]; done)), (by first | rfl | (simp; done) | (simp [*]; done)), H', ⟨Nat.le_refl _⟩, ⟨by repeat (first | (with_reducible first|exact HB.out|apply bA|apply bN|apply bD) | exact HB.out)⟩⟩
   case round =>
    clear H'
    try clear c1
    try clear c2
    try clear c2b0
    try clear p2
    try clear c3
    try clear c3b0
    try clear c5
    try clear c5b0
    try clear c5b1
    try clear c5b2
    try clear p6
    obtain ⟨x0_1, x3_1, rfl, rfl, HA, HK1, HB⟩ := hrel
    cases gk with
    | zero => exact absurd HA.out (by simp [spec_l13Dec.l0])
    | succ k1 =>
     have H := HA.out
     clear HA
     simp only [spec_l13Dec.l0] at H
     by_cases c7 : x0_1 > 9
     ·rw [if_pos c7] at H
      have c7b0 : decide (9 < x0_1) = true := decide_eq_true c7
      clear c7
      obtain ⟨y102, hy102⟩ : ∃ y_ : List Int, y_ = (([(wrap64 (48 + (Int.tmod x0_1 10))) % 256] : List Int)) := ⟨_, rfl⟩
      replace H : (if (strOfNums y102).size + x3_1.size ≤ 9223372036854775807 then (spec_l13Dec.l0 k1 (wrap64 (Int.tdiv x0_1 10)) ((strOfNums y102) ++ x3_1)) else (none)) = some r := by first | (rw [hy102]; with_reducible exact H) | (have H2_ := (Option.bind_some _ _).symm.trans H; rw [hy102]; with_reducible exact H2_) | (have H2_ := (Option.bind_some _ _).symm.trans H; with_reducible exact H2_) | with_reducible exact H | (rw [hy102]; exact H) | exact H
      have Ny102 := Az.mk hy102
      clear hy102
      by_cases c8 : (strOfNums y102).size + x3_1.size ≤ 9223372036854775807
      ·rw [if_pos c8] at H
       have c8b0 := eq_true c8
       have c8b1 : decide ((strOfNums y102).size + x3_1.size ≤ 9223372036854775807) = true := decide_eq_true c8
       try have c8b2 : (9223372036854775807 < (strOfNums y102).size + x3_1.size) = False := eq_false (Nat.not_lt.2 c8)
       have H' := Az.mk H
       clear H
       go_wp2_with (first | ((with_reducible refine gate_dst (N := 18) rfl ?_); refine Kd.R_lit (Kd.int .u8) _ 5 ?hg (N := 18) ?hd (xs := ([(wrap64 (48 + (Int.tmod x0_1 10))) % 256] : List Int)) (inner := [.int .u8 ((wrap64 (48 + (Int.tmod x0_1 10))) % 256)]) (ok := fun _ => True) (okp := fun _ => True) ?hr ?hp (fun _ hk => hk) trivial (Below.refl _ _) (Nat.le_refl _) (by simp) ?_; (case hd => rfl); (case hg => rfl); (case hr => first | (go_simp; done) | (go_simp; rfl)); (case hp => exact (Reps.one (show Kd.M (Kd.int .u8) _ _ _ ((wrap64 (48 + (Int.tmod x0_1 10))) % 256) [.int .u8 ((wrap64 (48 + (Int.tmod x0_1 10))) % 256)] from rfl) (Reps.none _ _))); intro v103 w9 ho10 hb hg_ hnew_; clear hg_ hnew_; (first | rw [← Ny102.out] at ho10 | (simp only [Int.reduceToNat] at ho10; rw [← Ny102.out] at ho10)); have n0_ := Az.mk (Kd.R_lower ho10 (bZ (by repeat first|exact HB.out|apply bA|apply bN|apply bD))); have n1_ := Az.mk (bS (by repeat first|exact HB.out|apply bA|apply bN|apply bD) hb); clear HB; have HO104 := n0_; have HB := n1_; clear n0_ n1_; clear hb ho10; have hcv11 := own_string (P := Tryd.prog) Tryd.underlying22 Tryd.underlying5 Tryd.underlying9 (Kd.own_of_R HO104.out)))
       go_roundg k1
       case measure => have := HK1.out; omega
       case rel => exact ⟨(wrap64 (Int.tdiv x0_1 10)), ((strOfNums y102) ++ x3_1), (by first | rfl | (simp; done) | (simp [*]; done)), (by first | rfl | (simp; done) | (simp [*]; done)), H', ⟨by have := HK1.out; omega⟩, ⟨by repeat (first | (with_reducible first|exact HB.out|apply bA|apply bN|apply bD) | exact HB.out)⟩⟩
      ·rw [if_neg c8] at H
       exact absurd H (by simp)
     ·rw [if_neg c7] at H
      have c7b0 : decide (9 < x0_1) = false := decide_eq_false c7
      clear c7
      obtain ⟨y105, hy105⟩ : ∃ y_ : List Int, y_ = (([(wrap64 (48 + x0_1)) % 256] : List Int)) := ⟨_, rfl⟩
      replace H : (if (strOfNums y105).size + x3_1.size ≤ 9223372036854775807 then (some ((strOfNums y105) ++ x3_1)) else (none)) = some r := by first | (rw [hy105]; with_reducible exact H) | (have H2_ := (Option.bind_some _ _).symm.trans H; rw [hy105]; with_reducible exact H2_) | (have H2_ := (Option.bind_some _ _).symm.trans H; with_reducible exact H2_) | with_reducible exact H | (rw [hy105]; exact H) | exact H
      have Ny105 := Az.mk hy105
      clear hy105
      by_cases c12 : (strOfNums y105).size + x3_1.size ≤ 9223372036854775807
      ·rw [if_pos c12] at H
       have c12b0 := eq_true c12
       have c12b1 : decide ((strOfNums y105).size + x3_1.size ≤ 9223372036854775807) = true := decide_eq_true c12
       try have c12b2 : (9223372036854775807 < (strOfNums y105).size + x3_1.size) = False := eq_false (Nat.not_lt.2 c12)
       obtain rfl := Option.some.inj H
       go_wp2_with (first | ((with_reducible refine gate_dst (N := 27) rfl ?_); refine Kd.R_lit (Kd.int .u8) _ 5 ?hg (N := 27) ?hd (xs := ([(wrap64 (48 + x0_1)) % 256] : List Int)) (inner := [.int .u8 ((wrap64 (48 + x0_1)) % 256)]) (ok := fun _ => True) (okp := fun _ => True) ?hr ?hp (fun _ hk => hk) trivial (Below.refl _ _) (Nat.le_refl _) (by simp) ?_; (case hd => rfl); (case hg => rfl); (case hr => first | (go_simp; done) | (go_simp; rfl)); (case hp => exact (Reps.one (show Kd.M (Kd.int .u8) _ _ _ ((wrap64 (48 + x0_1)) % 256) [.int .u8 ((wrap64 (48 + x0_1)) % 256)] from rfl) (Reps.none _ _))); intro v106 w13 ho14 hb hg_ hnew_; clear hg_ hnew_; (first | rw [← Ny105.out] at ho14 | (simp only [Int.reduceToNat] at ho14; rw [← Ny105.out] at ho14)); have n0_ := Az.mk (Kd.R_lower ho14 (bZ (by repeat first|exact HB.out|apply bA|apply bN|apply bD))); have n1_ := Az.mk (bS (by repeat first|exact HB.out|apply bA|apply bN|apply bD) hb); clear HB; have HO107 := n0_; have HB := n1_; clear n0_ n1_; clear hb ho14; have hcv15 := own_string (P := Tryd.prog) Tryd.underlying22 Tryd.underlying5 Tryd.underlying9 (Kd.own_of_R HO107.out)))
       go_ret
       exact ⟨by first | rfl | (simp [errW_none, errW_some] <;> rfl) | (simp [*, errW_none, errW_some] <;> rfl), by repeat (first | (with_reducible first|exact HB.out|apply bA|apply bN|apply bD) | exact HB.out)⟩
      ·rw [if_neg c12] at H
       exact absurd H (by simp)
end Go.Proofs.YtojhdfdhfajjjaaDoor.Pr
namespace Go.Proofs.YtojhdfdhfajjjaaDoor.Pr
open Go.RowKit Go.Proofs.YtojhdfdhfajjjaaDoorW.PrintWords Go.Proofs.YtojhdfdhfajjjaaDoorW.PrintLast Go.Proofs.YtojhdfdhfajjjaaDoorW.PrintMore
attribute [local go_sem] max2_int min2_int max_two min_two max_three min_three max_four min_four   -- for this text's walks alone
set_option linter.unusedVariables false
set_option linter.unusedSimpArgs false
def spec_FormatNumbers.l0 : Nat → ByteArray → List Int → Int → Int → Option (ByteArray)
 | 0, _, _, _, _ => none
 | k + 1, x3, x6, x7, x8 => if x8 < x7 then (if 0 ≤ x8 then (if x8 < (x6.length : Int) then (if x8 > 0 then (if x3.size + 1 ≤ 9223372036854775807 then ((spec_l13Dec.f k (rd x6 x8)).bind fun t109 => (if (x3 ++ (⟨#[32]⟩ : ByteArray)).size + t109.size ≤ 9223372036854775807 then (spec_FormatNumbers.l0 k ((x3 ++ (⟨#[32]⟩ : ByteArray)) ++ t109) x6 x7 (wrap64 (x8 + 1))) else (none))) else (none)) else ((spec_l13Dec.f k (rd x6 x8)).bind fun t110 => (if x3.size + t110.size ≤ 9223372036854775807 then (spec_FormatNumbers.l0 k (x3 ++ t110) x6 x7 (wrap64 (x8 + 1))) else (none)))) else (none)) else (none)) else (if x3.toList = ([] : List UInt8) then (some (⟨#[45]⟩ : ByteArray)) else (some x3))
def spec_FormatNumbers.f (k : Nat) (l0 : List Int) : Option (ByteArray) := spec_FormatNumbers.l0 k (⟨#[]⟩ : ByteArray) l0 (l0.length : Int) 0
set_option maxHeartbeats 8000000 in
set_option maxRecDepth 100000 in
theorem spec_FormatNumbers.calls (k : Nat) (A0 : Option Addr) (c0 : Nat) (l0 : List Int) (r : ByteArray) (w : World) (hr0 : Kd.C (Kd.int .i64) w A0 l0.length l0) (hc0 : l0.length ≤ c0) (h : spec_FormatNumbers.f k l0 = some r) :
  Calls Tryd.prog 7 #[.slice A0 l0.length c0] w fun e w' => e = .returned (.string r) ∧ Below w.heap.size w w' := by
 have HR0 := Az.mk hr0
 have HC0 := Az.mk hc0
 clear hr0 hc0
 have HB := Az.mk (Below.refl w.heap.size w)
 have H : (spec_FormatNumbers.l0 k (⟨#[]⟩ : ByteArray) l0 (l0.length : Int) 0) = some r := h
 clear h
 have H' := Az.mk H
 clear H
 go_enter Tryd.func7, Tryd.ntmps7
 go_wp2
 go_loopg [3, 8] k (fun kq v3 v8 w' => ∃ (x3_1 : ByteArray) (x8_1 : Int), v3 = .string x3_1 ∧ v8 = .int .i64 x8_1 ∧ Az (spec_FormatNumbers.l0 kq x3_1 l0 (l0.length : Int) x8_1 = some r) ∧ Az (kq ≤ k) ∧ Az (Below w.heap.size w w'))
 case atStart => exact ⟨((⟨#[]⟩ : ByteArray)), (0), (by first | rfl | (simp; done) | (simp [*]; done)), (by first | rfl | (simp; done) | (simp [*]; done)), H', ⟨Nat.le_refl _⟩, ⟨by repeat (first | (with_reducible first|exact HB.out|apply bA|apply bN|apply bD) | exact HB.out)⟩⟩
 case round =>
  clear H'
  obtain ⟨x3_1, x8_1, rfl, rfl, HA, HK1, HB⟩ := hrel
  cases gk with
  | zero => exact absurd HA.out (by simp [spec_FormatNumbers.l0])
  | succ k1 =>
   have H := HA.out
   clear HA
   simp only [spec_FormatNumbers.l0] at H
   by_cases c2 : x8_1 < (l0.length : Int)
   ·rw [if_pos c2] at H
    have c2b0 : decide (x8_1 < (l0.length : Int)) = true := decide_eq_true c2
    clear c2
    by_cases c3 : 0 ≤ x8_1
    ·rw [if_pos c3] at H
     have c3b0 : decide (0 ≤ x8_1) = true := decide_eq_true c3
     clear c3
     by_cases c4 : x8_1 < (l0.length : Int)
     ·rw [if_pos c4] at H
      have c4b0 : decide (x8_1 < (l0.length : Int)) = true := decide_eq_true c4
      clear c4
      by_cases c5 : x8_1 > 0
      ·rw [if_pos c5] at H
       have c5b0 : decide (0 < x8_1) = true := decide_eq_true c5
       clear c5
       by_cases c6 : x3_1.size + 1 ≤ 9223372036854775807
       ·rw [if_pos c6] at H
        have c6b0 := eq_true c6
        have c6b1 : decide (x3_1.size + 1 ≤ 9223372036854775807) = true := decide_eq_true c6
        try have c6b2 : (9223372036854775807 < x3_1.size + 1) = False := eq_false (Nat.not_lt.2 c6)
        replace H := Option.bind_eq_some_iff.mp H
        obtain ⟨t109, A70, H⟩ := H
        replace H : (if (x3_1 ++ (⟨#[32]⟩ : ByteArray)).size + t109.size ≤ 9223372036854775807 then (spec_FormatNumbers.l0 k1 ((x3_1 ++ (⟨#[32]⟩ : ByteArray)) ++ t109) l0 (l0.length : Int) (wrap64 (x8_1 + 1))) else (none)) = some r := H
        have A7 := Az.mk A70
        clear A70
        by_cases c8 : (x3_1 ++ (⟨#[32]⟩ : ByteArray)).size + t109.size ≤ 9223372036854775807
        ·rw [if_pos c8] at H
         have c8b0 := eq_true c8
         have c8b1 : decide ((x3_1 ++ (⟨#[32]⟩ : ByteArray)).size + t109.size ≤ 9223372036854775807) = true := decide_eq_true c8
         try have c8b2 : (9223372036854775807 < (x3_1 ++ (⟨#[32]⟩ : ByteArray)).size + t109.size) = False := eq_false (Nat.not_lt.2 c8)
         have c8z : x3_1.size + 1 + t109.size ≤ 9223372036854775807 := by have h := c8; simp only [ByteArray.size_append] at h; exact h
         have c8b4 : decide (x3_1.size + 1 + t109.size ≤ 9223372036854775807) = true := decide_eq_true c8z
         have c8b5 : (9223372036854775807 < x3_1.size + 1 + t109.size) = False := eq_false (Nat.not_lt.2 c8z)
         replace c8z := eq_true c8z
         have H' := Az.mk H
         clear H
         have p108 : 0 ≤ (x8_1 : Int) := of_decide_eq_true (by first|(with_reducible assumption)|assumption)
         have q108 : x8_1 < (l0.length : Int) := of_decide_eq_true (by first|(with_reducible assumption)|assumption)
         obtain ⟨ad108, e108, hx108_0⟩ := Kd.at_int HR0.out x8_1 p108 q108
         cases e108
         replace hx108_0 := (HB.out.cell (World.block_lt_of_cell? w _ hx108_0)).trans hx108_0
         replace p108 := eq_true p108
         replace q108 := eq_true q108
         go_wp2_with (first | ((with_reducible refine gate_callee (f := 18) rfl ?_); refine goesL_ (some 19) rfl rfl Tryd.func18 (by kernel_rfl) rfl #[.int .i64 (rd l0 x8_1)] rfl (by (try simp only [List.map_toArray, List.map_cons, List.map_nil]); first | done | rfl | (simp only [List.length_drop, List.length_take]; rfl)) ?_; (with_reducible refine (spec_l13Dec.calls k1 (rd l0 x8_1) t109 _ A7.out).mono ?_); rintro e w9 ⟨rfl, hb⟩; refine ⟨_, rfl, ?_⟩; have n0_ := Az.mk (bS (by repeat first|exact HB.out|apply bA|apply bN|apply bD) hb); clear HB; have HB := n0_; clear n0_; (try clear hb); (try clear hb2); (try clear hk); (try clear hi)))
         go_roundg k1
         case measure => have := HK1.out; omega
         case rel => exact ⟨((x3_1 ++ (⟨#[32]⟩ : ByteArray)) ++ t109), (wrap64 (x8_1 + 1)), (by first | rfl | (simp; done) | (simp [*]; done)), (by first | rfl | (simp; done) | (simp [*]; done)), H', ⟨by have := HK1.out; omega⟩, ⟨by repeat (first | (with_reducible first|exact HB.out|apply bA|apply bN|apply bD) | exact HB.out)⟩⟩
        ·rw [if_neg c8] at H
         exact absurd H (by simp)
       ·rw [if_neg c6] at H
        exact absurd H (by simp)
      ·rw [if_neg c5] at H
       have c5b0 : decide (0 < x8_1) = false := decide_eq_false c5
       clear c5
       replace H := Option.bind_eq_some_iff.mp H
       obtain ⟨t110, A100, H⟩ := H
       replace H : (if x3_1.size + t110.size ≤ 9223372036854775807 then (spec_FormatNumbers.l0 k1 (x3_1 ++ t110) l0 (l0.length : Int) (wrap64 (x8_1 + 1))) else (none)) = some r := H
       have A10 := Az.mk A100
       clear A100
       by_cases c11 : x3_1.size + t110.size ≤ 9223372036854775807
       ·rw [if_pos c11] at H
        have c11b0 := eq_true c11
        have c11b1 : decide (x3_1.size + t110.size ≤ 9223372036854775807) = true := decide_eq_true c11
        try have c11b2 : (9223372036854775807 < x3_1.size + t110.size) = False := eq_false (Nat.not_lt.2 c11)
        have H' := Az.mk H
        clear H
        have p108 : 0 ≤ (x8_1 : Int) := of_decide_eq_true (by first|(with_reducible assumption)|assumption)
        have q108 : x8_1 < (l0.length : Int) := of_decide_eq_true (by first|(with_reducible assumption)|assumption)
        obtain ⟨ad108, e108, hx108_0⟩ := Kd.at_int HR0.out x8_1 p108 q108
        cases e108
        replace hx108_0 := (HB.out.cell (World.block_lt_of_cell? w _ hx108_0)).trans hx108_0
        replace p108 := eq_true p108
        replace q108 := eq_true q108
        go_wp2_with (first | ((with_reducible refine gate_callee (f := 18) rfl ?_); refine goesL_ (some 19) rfl rfl Tryd.func18 (by kernel_rfl) rfl #[.int .i64 (rd l0 x8_1)] rfl (by (try simp only [List.map_toArray, List.map_cons, List.map_nil]); first | done | rfl | (simp only [List.length_drop, List.length_take]; rfl)) ?_; (with_reducible refine (spec_l13Dec.calls k1 (rd l0 x8_1) t110 _ A10.out).mono ?_); rintro e w12 ⟨rfl, hb⟩; refine ⟨_, rfl, ?_⟩; have n0_ := Az.mk (bS (by repeat first|exact HB.out|apply bA|apply bN|apply bD) hb); clear HB; have HB := n0_; clear n0_; (try clear hb); (try clear hb2); (try clear hk); (try clear hi)))
        go_roundg k1
        case measure => have := HK1.out; omega
        case rel => exact ⟨(x3_1 ++ t110), (wrap64 (x8_1 + 1)), (by first | rfl | (simp; done) | (simp [*]; done)), (by first | rfl | (simp; done) | (simp [*]; done)), H', ⟨by have := HK1.out; omega⟩, ⟨by repeat (first | (with_reducible first|exact HB.out|apply bA|apply bN|apply bD) | exact HB.out)⟩⟩
       ·rw [if_neg c11] at H
        exact absurd H (by simp)
     ·rw [if_neg c4] at H
      exact absurd H (by simp)
    ·rw [if_neg c3] at H
     exact absurd H (by simp)
   ·rw [if_neg c2] at H
    have c2b0 : decide (x8_1 < (l0.length : Int)) = false := decide_eq_false c2
    clear c2
    by_cases c13 : x3_1.toList = ([] : List UInt8)
    ·rw [if_pos c13] at H
     have c13b0 : (x3_1.toList == ([] : List UInt8)) = true := beq_iff_eq.mpr c13
     have c13b1 : (x3_1.toList != ([] : List UInt8)) = false := bne_eq_false_iff_eq.mpr c13
     clear c13
     obtain rfl := Option.some.inj H
     go_wp2
     go_ret
     exact ⟨by first | rfl | (simp [errW_none, errW_some] <;> rfl) | (simp [*, errW_none, errW_some] <;> rfl), by repeat (first | (with_reducible first|exact HB.out|apply bA|apply bN|apply bD) | exact HB.out)⟩
    ·rw [if_neg c13] at H
     have c13b0 : (x3_1.toList == ([] : List UInt8)) = false := beq_eq_false_iff_ne.mpr c13
     have c13b1 : (x3_1.toList != ([] : List UInt8)) = true := bne_iff_ne.mpr c13
     obtain rfl := Option.some.inj H
     go_wp2
     go_ret
     exact ⟨by first | rfl | (simp [errW_none, errW_some] <;> rfl) | (simp [*, errW_none, errW_some] <;> rfl), by repeat (first | (with_reducible first|exact HB.out|apply bA|apply bN|apply bD) | exact HB.out)⟩
def laws_elSame.l0 : Nat → List Int → List Int → Int → Int → Option (Bool)
 | 0, _, _, _, _ => none
 | k + 1, x0, x1, x10, x11 => if x11 < x10 then (if 0 ≤ x11 then (if x11 < (x0.length : Int) then (if x11 < (x1.length : Int) then (if (rd x0 x11) = (rd x1 x11) then (laws_elSame.l0 k x0 x1 x10 (wrap64 (x11 + 1))) else (some false)) else (none)) else (none)) else (none)) else (some ((x0.length : Int) == (x1.length : Int)))
def laws_elSame.f (k : Nat) (l0 : List Int) (l1 : List Int) : Option (Bool) := laws_elSame.l0 k l0 l1 (mn (l0.length : Int) (l1.length : Int)) 0
set_option maxHeartbeats 8000000 in
set_option maxRecDepth 100000 in
theorem laws_elSame.calls (k : Nat) (A0 : Option Addr) (c0 : Nat) (l0 : List Int) (A1 : Option Addr) (c1 : Nat) (l1 : List Int) (r : Bool) (w : World) (hr0 : Kd.C (Kd.int .i64) w A0 l0.length l0) (hc0 : l0.length ≤ c0) (hr1 : Kd.C (Kd.int .i64) w A1 l1.length l1) (hc1 : l1.length ≤ c1) (h : laws_elSame.f k l0 l1 = some r) :
  Calls Tryd.prog 8 #[.slice A0 l0.length c0, .slice A1 l1.length c1] w fun e w' => e = .returned (.bool r) ∧ Below w.heap.size w w' := by
 have HR0 := Az.mk hr0
 have HC0 := Az.mk hc0
 clear hr0 hc0
 have HR1 := Az.mk hr1
 have HC1 := Az.mk hc1
 clear hr1 hc1
 have HB := Az.mk (Below.refl w.heap.size w)
 have H : (laws_elSame.l0 k l0 l1 (mn (l0.length : Int) (l1.length : Int)) 0) = some r := h
 clear h
 obtain ⟨ji3, hji3⟩ : ∃ j_ : Int, (mn (l0.length : Int) (l1.length : Int)) = j_ := ⟨_, rfl⟩
 replace H : (laws_elSame.l0 k l0 l1 ji3 0) = some r := by first | (rw [hji3] at H; exact H) | (simp only [hji3] at H ⊢; exact H)
 (try (have hji3l : 0 ≤ ji3 := by (rw [← hji3]; unfold mn; (repeat' split) <;> omega)))
 (try (have hji3m : 0 ≤ ji3 := by omega))
 have hji3_ : (if (l1.length : Int) < (l0.length : Int) then (l1.length : Int) else (l0.length : Int)) = ji3 := hji3
 clear hji3_
 by_cases hmn : l1.length < l0.length
 ·obtain rfl : (l1.length : Int) = ji3 := (by rw [← hji3]; unfold mn; (repeat' split) <;> omega)
  try clear hji3 hji3l hji3m
  have H' := Az.mk H
  clear H
  go_enter Tryd.func8, Tryd.ntmps8
  go_wp2
  repeat (go_quiet (fail); try go_wp2)
  go_loopg [11] k (fun kq v11 w' => ∃ (x11_1 : Int), v11 = .int .i64 x11_1 ∧ Az (laws_elSame.l0 kq l0 l1 (l1.length : Int) x11_1 = some r) ∧ Az (kq ≤ k) ∧ Az (Below w.heap.size w w'))
  case atStart => exact ⟨(0), (by first | rfl | (simp; done) | (simp [*]; done)), H', ⟨Nat.le_refl _⟩, ⟨by repeat (first | (with_reducible first|exact HB.out|apply bA|apply bN|apply bD) | exact HB.out)⟩⟩
  case round =>
   clear H'
   try clear c1
   try clear c2
   try clear p2
   obtain ⟨x11_1, rfl, HA, HK1, HB⟩ := hrel
   cases gk with
   | zero => exact absurd HA.out (by simp [laws_elSame.l0])
   | succ k1 =>
    have H := HA.out
    clear HA
    simp only [laws_elSame.l0] at H
    by_cases c4 : x11_1 < (l1.length : Int)
    ·rw [if_pos c4] at H
     have c4b0 : decide (x11_1 < (l1.length : Int)) = true := decide_eq_true c4
     clear c4
     by_cases c5 : 0 ≤ x11_1
     ·rw [if_pos c5] at H
      have c5b0 : decide (0 ≤ x11_1) = true := decide_eq_true c5
      clear c5
      by_cases c6 : x11_1 < (l0.length : Int)
      ·rw [if_pos c6] at H
       have c6b0 : decide (x11_1 < (l0.length : Int)) = true := decide_eq_true c6
       clear c6
       by_cases c7 : x11_1 < (l1.length : Int)
       ·rw [if_pos c7] at H
        have c7b0 : decide (x11_1 < (l1.length : Int)) = true := decide_eq_true c7
        clear c7
        by_cases c8 : (rd l0 x11_1) = (rd l1 x11_1)
        ·rw [if_pos c8] at H
         have c8b0 : ((rd l0 x11_1) == (rd l1 x11_1)) = true := beq_iff_eq.mpr c8
         have c8b1 : ((rd l0 x11_1) != (rd l1 x11_1)) = false := bne_eq_false_iff_eq.mpr c8
         clear c8
         have H' := Az.mk H
         clear H
         have p401 : 0 ≤ (x11_1 : Int) := of_decide_eq_true (by first|(with_reducible assumption)|assumption)
         have q401 : x11_1 < (l0.length : Int) := of_decide_eq_true (by first|(with_reducible assumption)|assumption)
         obtain ⟨ad401, e401, hx401_0⟩ := Kd.at_int HR0.out x11_1 p401 q401
         cases e401
         replace hx401_0 := (HB.out.cell (World.block_lt_of_cell? w _ hx401_0)).trans hx401_0
         replace p401 := eq_true p401
         replace q401 := eq_true q401
         have p402 : 0 ≤ (x11_1 : Int) := of_decide_eq_true (by first|(with_reducible assumption)|assumption)
         have q402 : x11_1 < (l1.length : Int) := of_decide_eq_true (by first|(with_reducible assumption)|assumption)
         obtain ⟨ad402, e402, hx402_0⟩ := Kd.at_int HR1.out x11_1 p402 q402
         cases e402
         replace hx402_0 := (HB.out.cell (World.block_lt_of_cell? w _ hx402_0)).trans hx402_0
         replace p402 := eq_true p402
         replace q402 := eq_true q402
         go_wp2
         repeat (go_quiet (fail); try go_wp2)
         go_roundg k1
         case measure => have := HK1.out; omega
         case rel => exact ⟨(wrap64 (x11_1 + 1)), (by first | rfl | (simp; done) | (simp [*]; done)), H', ⟨by have := HK1.out; omega⟩, ⟨by repeat (first | (with_reducible first|exact HB.out|apply bA|apply bN|apply bD) | exact HB.out)⟩⟩
        ·rw [if_neg c8] at H
         have c8b0 : ((rd l0 x11_1) == (rd l1 x11_1)) = false := beq_eq_false_iff_ne.mpr c8
         have c8b1 : ((rd l0 x11_1) != (rd l1 x11_1)) = true := bne_iff_ne.mpr c8
         obtain rfl := Option.some.inj H
         have p401 : 0 ≤ (x11_1 : Int) := of_decide_eq_true (by first|(with_reducible assumption)|assumption)
         have q401 : x11_1 < (l0.length : Int) := of_decide_eq_true (by first|(with_reducible assumption)|assumption)
         obtain ⟨ad401, e401, hx401_0⟩ := Kd.at_int HR0.out x11_1 p401 q401
         cases e401
         replace hx401_0 := (HB.out.cell (World.block_lt_of_cell? w _ hx401_0)).trans hx401_0
         replace p401 := eq_true p401
         replace q401 := eq_true q401
         have p402 : 0 ≤ (x11_1 : Int) := of_decide_eq_true (by first|(with_reducible assumption)|assumption)
         have q402 : x11_1 < (l1.length : Int) := of_decide_eq_true (by first|(with_reducible assumption)|assumption)
         obtain ⟨ad402, e402, hx402_0⟩ := Kd.at_int HR1.out x11_1 p402 q402
         cases e402
         replace hx402_0 := (HB.out.cell (World.block_lt_of_cell? w _ hx402_0)).trans hx402_0
         replace p402 := eq_true p402
         replace q402 := eq_true q402
         go_wp2
         repeat (go_quiet (fail); try go_wp2)
         go_ret
         exact ⟨by first | rfl | (simp [errW_none, errW_some] <;> rfl) | (skip; first | rfl | (simp [errW_none, errW_some] <;> rfl)) | (simp [*, errW_none, errW_some] <;> rfl), by repeat (first | (with_reducible first|exact HB.out|apply bA|apply bN|apply bD) | exact HB.out)⟩
       ·rw [if_neg c7] at H
        exact absurd H (by simp)
      ·rw [if_neg c6] at H
       exact absurd H (by simp)
     ·rw [if_neg c5] at H
      exact absurd H (by simp)
    ·rw [if_neg c4] at H
     have c4b0 : decide (x11_1 < (l1.length : Int)) = false := decide_eq_false c4
     clear c4
     obtain rfl := Option.some.inj H
     go_wp2
     repeat (go_quiet (fail); try go_wp2)
     go_ret
     exact ⟨by first | rfl | (simp [errW_none, errW_some] <;> rfl) | (skip; first | rfl | (simp [errW_none, errW_some] <;> rfl)) | (simp [*, errW_none, errW_some] <;> rfl), by repeat (first | (with_reducible first|exact HB.out|apply bA|apply bN|apply bD) | exact HB.out)⟩
 ·obtain rfl : (l0.length : Int) = ji3 := (by rw [← hji3]; unfold mn; (repeat' split) <;> omega)
  try clear hji3 hji3l hji3m
  have H' := Az.mk H
  clear H
  go_enter Tryd.func8, Tryd.ntmps8
  go_wp2
  repeat (go_quiet (fail); try go_wp2)
  go_loopg [11] k (fun kq v11 w' => ∃ (x11_1 : Int), v11 = .int .i64 x11_1 ∧ Az (laws_elSame.l0 kq l0 l1 (l0.length : Int) x11_1 = some r) ∧ Az (kq ≤ k) ∧ Az (Below w.heap.size w w'))
  case atStart => exact ⟨(0), (by first | rfl | (simp; done) | (simp [*]; done)), H', ⟨Nat.le_refl _⟩, ⟨by repeat (first | (with_reducible first|exact HB.out|apply bA|apply bN|apply bD) | exact HB.out)⟩⟩
  case round =>
   clear H'
   try clear c1
   try clear c2
   try clear p2
   obtain ⟨x11_1, rfl, HA, HK1, HB⟩ := hrel
   cases gk with
   | zero => exact absurd HA.out (by simp [laws_elSame.l0])
   | succ k1 =>
    have H := HA.out
    clear HA
    simp only [laws_elSame.l0] at H
    by_cases c4 : x11_1 < (l0.length : Int)
    ·rw [if_pos c4] at H
     have c4b0 : decide (x11_1 < (l0.length : Int)) = true := decide_eq_true c4
     clear c4
     by_cases c5 : 0 ≤ x11_1
     ·rw [if_pos c5] at H
      have c5b0 : decide (0 ≤ x11_1) = true := decide_eq_true c5
      clear c5
      by_cases c6 : x11_1 < (l0.length : Int)
      ·rw [if_pos c6] at H
       have c6b0 : decide (x11_1 < (l0.length : Int)) = true := decide_eq_true c6
       clear c6
       by_cases c7 : x11_1 < (l1.length : Int)
       ·rw [if_pos c7] at H
        have c7b0 : decide (x11_1 < (l1.length : Int)) = true := decide_eq_true c7
        clear c7
        by_cases c8 : (rd l0 x11_1) = (rd l1 x11_1)
        ·rw [if_pos c8] at H
         have c8b0 : ((rd l0 x11_1) == (rd l1 x11_1)) = true := beq_iff_eq.mpr c8
         have c8b1 : ((rd l0 x11_1) != (rd l1 x11_1)) = false := bne_eq_false_iff_eq.mpr c8
         clear c8
         have H' := Az.mk H
         clear H
         have p401 : 0 ≤ (x11_1 : Int) := of_decide_eq_true (by first|(with_reducible assumption)|assumption)
         have q401 : x11_1 < (l0.length : Int) := of_decide_eq_true (by first|(with_reducible assumption)|assumption)
         obtain ⟨ad401, e401, hx401_0⟩ := Kd.at_int HR0.out x11_1 p401 q401
         cases e401
         replace hx401_0 := (HB.out.cell (World.block_lt_of_cell? w _ hx401_0)).trans hx401_0
         replace p401 := eq_true p401
         replace q401 := eq_true q401
         have p402 : 0 ≤ (x11_1 : Int) := of_decide_eq_true (by first|(with_reducible assumption)|assumption)
         have q402 : x11_1 < (l1.length : Int) := of_decide_eq_true (by first|(with_reducible assumption)|assumption)
         obtain ⟨ad402, e402, hx402_0⟩ := Kd.at_int HR1.out x11_1 p402 q402
         cases e402
         replace hx402_0 := (HB.out.cell (World.block_lt_of_cell? w _ hx402_0)).trans hx402_0
         replace p402 := eq_true p402
         replace q402 := eq_true q402
         go_wp2
         repeat (go_quiet (fail); try go_wp2)
         go_roundg k1
         case measure => have := HK1.out; omega
         case rel => exact ⟨(wrap64 (x11_1 + 1)), (by first | rfl | (simp; done) | (simp [*]; done)), H', ⟨by have := HK1.out; omega⟩, ⟨by repeat (first | (with_reducible first|exact HB.out|apply bA|apply bN|apply bD) | exact HB.out)⟩⟩
        ·rw [if_neg c8] at H
         have c8b0 : ((rd l0 x11_1) == (rd l1 x11_1)) = false := beq_eq_false_iff_ne.mpr c8
         have c8b1 : ((rd l0 x11_1) != (rd l1 x11_1)) = true := bne_iff_ne.mpr c8
         obtain rfl := Option.some.inj H
         have p401 : 0 ≤ (x11_1 : Int) := of_decide_eq_true (by first|(with_reducible assumption)|assumption)
         have q401 : x11_1 < (l0.length : Int) := of_decide_eq_true (by first|(with_reducible assumption)|assumption)
         obtain ⟨ad401, e401, hx401_0⟩ := Kd.at_int HR0.out x11_1 p401 q401
         cases e401
         replace hx401_0 := (HB.out.cell (World.block_lt_of_cell? w _ hx401_0)).trans hx401_0
         replace p401 := eq_true p401
         replace q401 := eq_true q401
         have p402 : 0 ≤ (x11_1 : Int) := of_decide_eq_true (by first|(with_reducible assumption)|assumption)
         have q402 : x11_1 < (l1.length : Int) := of_decide_eq_true (by first|(with_reducible assumption)|assumption)
         obtain ⟨ad402, e402, hx402_0⟩ := Kd.at_int HR1.out x11_1 p402 q402
         cases e402
         replace hx402_0 := (HB.out.cell (World.block_lt_of_cell? w _ hx402_0)).trans hx402_0
         replace p402 := eq_true p402
         replace q402 := eq_true q402
         go_wp2
         repeat (go_quiet (fail); try go_wp2)
         go_ret
         exact ⟨by first | rfl | (simp [errW_none, errW_some] <;> rfl) | (skip; first | rfl | (simp [errW_none, errW_some] <;> rfl)) | (simp [*, errW_none, errW_some] <;> rfl), by repeat (first | (with_reducible first|exact HB.out|apply bA|apply bN|apply bD) | exact HB.out)⟩
       ·rw [if_neg c7] at H
        exact absurd H (by simp)
      ·rw [if_neg c6] at H
       exact absurd H (by simp)
     ·rw [if_neg c5] at H
      exact absurd H (by simp)
    ·rw [if_neg c4] at H
     have c4b0 : decide (x11_1 < (l0.length : Int)) = false := decide_eq_false c4
     clear c4
     obtain rfl := Option.some.inj H
     go_wp2
     repeat (go_quiet (fail); try go_wp2)
     go_ret
     exact ⟨by first | rfl | (simp [errW_none, errW_some] <;> rfl) | (skip; first | rfl | (simp [errW_none, errW_some] <;> rfl)) | (simp [*, errW_none, errW_some] <;> rfl), by repeat (first | (with_reducible first|exact HB.out|apply bA|apply bN|apply bD) | exact HB.out)⟩
end Go.Proofs.YtojhdfdhfajjjaaDoor.Pr
