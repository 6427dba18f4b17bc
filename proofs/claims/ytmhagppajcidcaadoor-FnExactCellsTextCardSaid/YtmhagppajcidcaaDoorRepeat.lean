/- The contract of slices.Repeat for a row of one text. -/
import Derived.Test.YtmhagppajcidcaaDoorQ0
import Derived.Test.YtmhagppajcidcaaDoorLaid
import Derived.Shelf.Bits.Mul64
import Derived.Shelf.LaysM
import Derived.Laws.CopyOwn
import Derived.Deep.RegionWith
import Derived.RegionTactic
import Derived.Handy
import Derived.Outline
import Derived.Deep.DeepCutAuto
import Derived.Deep.CutBlock
import Derived.Deep.QuietTactic
import Derived.Deep.RegionLaw
import Derived.BigQuiet
import Derived.BigCall
import Derived.BigRegion
namespace Go.Proofs
open Go.Shelf
def Tryd.lays264_ren : Go.Shelf.Ren := ⟨fun | 264 => 63 | n => n, fun | 53 => 87 | 46 => 73 | n => n, fun | n => n⟩
theorem Tryd.lays264 : Go.Proofs.Lays.n264 Tryd.prog Tryd.lays264_ren := {
  mixed := by kernel_rfl
  f264 := Tryd.func63.trans (congrArg some (by kernel_rfl))
  t46 := Tryd.underlying73
  a46 := Tryd.isAgg73
  z46 := Tryd.sizeOf73
  v46 := Tryd.zeroValue73
  t53 := Tryd.underlying87
  a53 := Tryd.isAgg87
  z53 := Tryd.sizeOf87
  v53 := Tryd.zeroValue87 }
open Go.RowKit Go.Lib in
theorem Tryd.bits_Mul64 (x y : Nat) (hx : x < 18446744073709551616) (hy : y < 18446744073709551616) (w : World) :
    Calls Tryd.prog 63 #[.int .u64 x, .int .u64 y] w fun e w' => e = .returned (.tuple #[.int .u64 ((x * y / 18446744073709551616 : Nat) : Int), .int .u64 ((x * y % 18446744073709551616 : Nat) : Int)]) ∧ w' = w := Any.bits_Mul64 Tryd.lays264 x y hx hy w
def Tryd.lays212_ren : Go.Shelf.Ren := ⟨fun | 212 => 54 | 263 => 62 | 264 => 63 | n => n, fun | 46 => 73 | 51 => 84 | 146 => 85 | 53 => 87 | 148 => 88 | n => n, fun | n => n⟩
theorem Tryd.lays212 : Go.Proofs.Lays.n212 Tryd.prog Tryd.lays212_ren := {
  mixed := by kernel_rfl
  f212 := Tryd.func54.trans (congrArg some (by kernel_rfl))
  f263 := Tryd.func62.trans (congrArg some (by kernel_rfl))
  f264 := Tryd.func63.trans (congrArg some (by kernel_rfl))
  t46 := Tryd.underlying73
  a46 := Tryd.isAgg73
  z46 := Tryd.sizeOf73
  v46 := Tryd.zeroValue73
  t51 := Tryd.underlying84
  a51 := Tryd.isAgg84
  z51 := Tryd.sizeOf84
  v51 := Tryd.zeroValue84
  t53 := Tryd.underlying87
  a53 := Tryd.isAgg87
  z53 := Tryd.sizeOf87
  v53 := Tryd.zeroValue87
  t146 := Tryd.underlying85
  a146 := Tryd.isAgg85
  z146 := Tryd.sizeOf85
  v146 := Tryd.zeroValue85
  t148 := Tryd.underlying88
  a148 := Tryd.isAgg88
  z148 := Tryd.sizeOf88
  v148 := Tryd.zeroValue88 }
open Go.RowKit Go.Lib in
/-- math/bits.Mul: "Mul returns the full-width product of x and y": on a machine of 64 bits: Mul64's. (LAID: no walk: one application.) -/
theorem Tryd.bits_Mul (x y : Nat) (hx : x < 18446744073709551616) (hy : y < 18446744073709551616) (w : World) :
    Calls Tryd.prog 54 #[.int .u64 x, .int .u64 y] w fun e w' => e = .returned (.tuple #[.int .u64 ((x * y / 18446744073709551616 : Nat) : Int), .int .u64 ((x * y % 18446744073709551616 : Nat) : Int)]) ∧ w' = w := Any.bits_Mul Tryd.lays212 x y hx hy w
end Go.Proofs
namespace Go.Proofs.YtmhagppajcidcaaDoor.Pr
open Go.RowKit Go.Proofs.YtmhagppajcidcaaDoorW.PrintWords Go.Proofs.YtmhagppajcidcaaDoorW.PrintLast Go.Proofs.YtmhagppajcidcaaDoorW.PrintMore
set_option linter.unusedVariables false
/-- c times a text, then the rest empty -/
def rrow (s : ByteArray) (n c : Nat) : List Value := List.replicate c (.string s) ++ List.replicate (n - c) (.string ⟨#[]⟩)
theorem rrow_length (s : ByteArray) (n c : Nat) (h : c ≤ n) : (rrow s n c).length = n := by unfold rrow; simp; omega
theorem rrow_splice (s : ByteArray) {n c d : Nat} (h : c + d ≤ n) : splice (rrow s n c) c (List.replicate d (.string s)) = rrow s n (c + d) := by
  unfold splice rrow
  rw [List.take_left' (by simp), List.drop_append, List.drop_of_length_le (by simp)]
  simp only [List.length_replicate, List.nil_append, List.drop_replicate]
  rw [show n - c - (c + d - c) = n - (c + d) by omega, ← List.append_assoc, List.replicate_append_replicate]
theorem rrow_next {s : ByteArray} {n c g : Nat} {cs : List Value} {w : World} (hcs : cs = List.replicate (Nat.min c (n - c)) (Value.string s)) (h : c + Nat.min c (n - c) ≤ n) (hg : w.heap[g]? = some (.cells (splice (rrow s n c) c cs).toArray 9 (0, 0))) (hl : cs.length = Nat.min c (n - c)) : Hid (w.heap[g]? = some (.cells (rrow s n (c + cs.length)).toArray 9 (0, 0))) := by
  rw [hl]
  rw [hcs, rrow_splice s h] at hg
  exact Lib.hid hg
def RpRel (w0 : World) (s : ByteArray) (g n : Nat) (v8 : Value) (wr : World) : Prop :=
  ∃ c : Nat, c ≤ n ∧ (0 < n → 1 ≤ c) ∧ v8 = .int .i64 c ∧ Hid (wr.heap[g]? = some (.cells (rrow s n c).toArray 9 (0, 0))) ∧ Below w0.heap.size w0 wr
theorem rrow_full (s : ByteArray) {w wr : World} {g n : Nat} (hg : w.heap.size ≤ g) (hn : n ≤ 1000) (h : wr.heap[g]? = some (.cells (rrow s n n).toArray 9 (0, 0))) : Kd.R Kd.string 9 wr w.heap.size (fun _ => True) (.slice (some ⟨g, 0, none⟩) n n) (List.replicate n s) := by
  have e : rrow s n n = List.replicate n (Value.string s) := by unfold rrow; simp
  rw [e] at h
  refine ⟨fun _ _ => trivial, List.replicate n (Value.string s), ⟨by simp [Kd.string, Kd.scalar], .inr ⟨g, n, _, by rw [List.length_replicate], hg, h, by simp, by unfold maxLen; omega, by simp [Kd.string, Kd.scalar], by simp [Kd.string, Kd.scalar]⟩⟩, by simp [Kd.string, Kd.scalar], fun j q hq => ?_⟩
  obtain ⟨hj, hq⟩ := List.getElem?_eq_some_iff.1 hq
  simp at hj hq
  subst hq
  have e2 : ((List.replicate n (Value.string s)).drop (j * 1)).take 1 = [Value.string s] := by
    rw [Nat.mul_one, List.drop_replicate, List.take_replicate]
    rw [show min 1 (n - j) = 1 by omega]
    rfl
  show Kd.M Kd.string _ _ _ s (((List.replicate n (Value.string s)).drop (j * 1)).take 1)
  rw [e2]
  exact rfl
theorem one_src {w : World} {ad : Addr} {s : ByteArray} {n : Nat} {cs : List Value} (h : w.cell? ad = some (.string s)) (hcs : cs = List.replicate (Nat.min 1 n) (Value.string s)) {j : Nat} {v : Value} (hj : cs[j]? = some v) : w.cell? (ad.add j) = some v := by
  subst hcs
  obtain ⟨h1, h2⟩ := List.getElem?_eq_some_iff.1 hj
  rw [List.length_replicate] at h1
  have := Nat.min_le_left 1 n
  obtain rfl : j = 0 := by have : Nat.min 1 n ≤ 1 := Nat.min_le_left 1 n; omega
  simp at h2
  subst h2
  simpa [Addr.add] using h
theorem two_src {w : World} {g n c : Nat} {s : ByteArray} {cs : List Value} (h : w.heap[g]? = some (.cells (rrow s n c).toArray 9 (0, 0))) (hcs : cs = List.replicate (Nat.min c (n - c)) (Value.string s)) {j : Nat} {v : Value} (hj : cs[j]? = some v) : w.cell? ((⟨g, 0, none⟩ : Addr).add j) = some v := by
  subst hcs
  obtain ⟨h1, h2⟩ := List.getElem?_eq_some_iff.1 hj
  rw [List.length_replicate] at h1
  have : Nat.min c (n - c) ≤ c := Nat.min_le_left _ _
  rw [List.getElem_replicate] at h2
  subst h2
  have e : (⟨g, 0, none⟩ : Addr).add j = ⟨g, j, none⟩ := by
    unfold Addr.add
    split
    · rename_i hj0; subst hj0; rfl
    · simp
  rw [e, blk_cell h, List.getElem?_toArray]
  unfold rrow
  rw [List.getElem?_append_left (by simp; omega), List.getElem?_replicate, if_pos (by omega)]
theorem rep_one (s : ByteArray) (n : Nat) : ∀ v ∈ List.replicate n (Value.string s), v.oneCell' = true := by
  intro v hv
  rw [List.eq_of_mem_replicate hv]
  rfl
theorem below_a {w : World} (o : Obj) : Below w.heap.size w (w.alloc o) := (Below.refl _ w).alloc (Nat.le_refl _) o
theorem rput1 {T : Array Value} {D : List Deferred} {n : Nat} {v : Value} : (⟨T, D⟩ : Act).put (some n) v = ⟨T.setIfInBounds n v, D⟩ := rfl
theorem rput2 {Q : Exit → Act → World → Prop} {T : Array Value} {D : List Deferred} {w : World} {d1 d2 : Option Nat} {v1 v2 : Value} {n1 n2 : Nat} (h1 : d1 = some n1) (h2 : d2 = some n2)
    (h : Q .normal ⟨(T.setIfInBounds n1 v1).setIfInBounds n2 v2, D⟩ w) : Q .normal (((⟨T, D⟩ : Act).put d1 v1).put d2 v2) w := by
  subst h1 h2
  simp only [rput1]
  exact h
theorem made_empty (n : Nat) : (madeCells #[.string ⟨#[]⟩] n).toList = List.replicate n (.string ⟨#[]⟩) := by
  unfold madeCells
  simp only [Array.toList_map, Array.toList_range]
  rw [List.eq_replicate_iff]
  refine ⟨by simp, fun b hb => ?_⟩
  obtain ⟨a, _, rfl⟩ := List.mem_map.1 hb
  simp [Nat.mod_one]
set_option maxHeartbeats 4000000 in
set_option maxRecDepth 1000000 in
theorem repeat_any (A0 : Option Addr) (c0 : Nat) (s : ByteArray) (n : Nat) (w : World) (hr0 : Kd.C Kd.string w A0 1 [s]) (hn : n ≤ 1000) :
    Calls Tryd.prog 43 #[.slice A0 1 c0, .int .i64 n] w fun e w' => ∃ v0_ : Value, e = .returned v0_ ∧ Kd.R Kd.string 9 w' w.heap.size (fun _ => True) v0_ (List.replicate n s) ∧ Below w.heap.size w w' := by
  obtain ⟨ad, hA, hc⟩ := Kd.at_string hr0 0 (by omega) (by omega)
  subst hA
  have HC := Lib.hid hc
  clear hc hr0
  go_enter Tryd.func43, Tryd.ntmps43
  go_wp2_with fail
  refine (Tryd.bits_Mul 1 n (by omega) (by omega) _).mono ?_
  rintro e w1 ⟨rfl, rfl⟩
  rw [Nat.one_mul, show n / 18446744073709551616 = 0 by omega, show n % 18446744073709551616 = n by omega]
  have hi1 : decide ((n : Int) < 0) = false := decide_eq_false (by omega)
  have hi2 : decide ((9223372036854775807 : Int) < (n : Int)) = false := decide_eq_false (by omega)
  have hmk := print_make_of (P := Tryd.prog) 54 9 (.string ⟨#[]⟩) 16 Tryd.underlying54 info9 rfl (by decide) n (by omega)
  go_upto_region 7 with fail
  have hG : (w1.alloc (.cells (madeCells #[.string ⟨#[]⟩] n) 9)).heap[w1.heap.size]? = some (.cells (rrow s n 0).toArray 9 (0, 0)) := by
    rw [heap_alloc_new]
    congr 2
    apply Array.ext'
    rw [made_empty]
    unfold rrow
    simp
  have HG := Lib.hid hG
  have HB := Lib.hid (below_a (w := w1) (.cells (madeCells #[.string ⟨#[]⟩] n) 9))
  obtain ⟨W1, hW1⟩ : ∃ W1, W1 = w1.alloc (.cells (madeCells #[.string ⟨#[]⟩] n) 9) := ⟨_, rfl⟩
  rw [← hW1] at HG HB ⊢
  obtain ⟨g, hg⟩ : ∃ g, g = w1.heap.size := ⟨_, rfl⟩
  rw [← hg] at HG ⊢
  have HGE := Lib.hid (show w1.heap.size ≤ g by omega)
  have hcw := HB.out.cell (World.block_lt_of_cell? w1 _ HC.out)
  have HCW := Lib.hid (show W1.cell? ad = some (.string s) by
    have h := hcw.trans HC.out
    simpa [rdOf, Addr.add] using h)
  obtain ⟨cs1, hcs1⟩ : ∃ cs1, cs1 = List.replicate (Nat.min 1 n) (Value.string s) := ⟨_, rfl⟩
  have HCS := Lib.hid hcs1
  have hcl : cs1.length = Nat.min 1 n := by rw [hcs1, List.length_replicate]
  have HCN := Lib.hid (show cs1.length ≤ n by rw [hcl]; exact Nat.min_le_right _ _)
  have HCL := Lib.hid hcl
  clear hG hW1 hg hcw hcs1 hcl
  go_wp2_with (first | ((with_reducible refine gate_dst (N := 33) rfl ?_); refine wpList_copy_splice rfl _ _ 54 54 rfl 9 Tryd.underlying54 (by kernel_rfl) _ _ _ _ _ _ rfl rfl g 0 (rrow s n 0) 9 HG.out cs1 HCL.out (fun h => ⟨rfl, ad, rfl, fun j v hj => one_src HCW.out HCS.out hj⟩) (by rw [rrow_length s n 0 (by omega), Nat.zero_add]; exact HCN.out) (by rw [HCS.out]; exact rep_one s _) w1.heap.size w1 HB.out HGE.out ?_; intro W2 HG2 hB2; have HB2 := Lib.hid hB2; clear hB2) | fail)
  have hstart : RpRel w1 s g n (.int .i64 (cs1.length : Nat)) W2 := by
    refine ⟨cs1.length, HCN.out, fun h => ?_, rfl, ?_, HB2.out⟩
    · rw [HCL.out]
      exact Nat.le_min.2 ⟨Nat.le_refl _, h⟩
    · have e := rrow_splice s (n := n) (c := 0) (d := Nat.min 1 n) (by rw [Nat.zero_add]; exact Nat.min_le_right _ _)
      have h2 := HG2.out
      rw [HCS.out, e, Nat.zero_add] at h2
      rw [HCL.out]
      exact h2
  have HST := Lib.hid hstart
  clear hstart HG2
  go_loopw [8] (fun v8 wr => RpRel w1 s g n v8 wr) (fun v8 _ => n - (intOf v8).toNat)
  case atStart => exact HST.out
  case round =>
    obtain ⟨c, hcn, hc1, rfl, hG, hBr⟩ := hrel
    have HGR := Lib.hid hG
    have HBR := Lib.hid hBr
    clear hG hBr HST
    by_cases hlt : c < n
    · have hc0 : 1 ≤ c := hc1 (by omega)
      obtain ⟨cs2, hcs2⟩ : ∃ cs2, cs2 = List.replicate (Nat.min c (n - c)) (Value.string s) := ⟨_, rfl⟩
      have HCS2 := Lib.hid hcs2
      have hcl2 : cs2.length = Nat.min c (n - c) := by rw [hcs2, List.length_replicate]
      have HCL2 := Lib.hid hcl2
      have hcn2 : cs2.length ≤ 1000 := by rw [hcl2]; exact Nat.le_trans (Nat.min_le_right _ _) (by omega)
      have hcn30 : cs2.length ≤ n - c := by rw [hcl2]; exact Nat.min_le_right _ _
      have hcn3 : c + cs2.length ≤ n := by omega
      have hcn4 : 1 ≤ cs2.length := by rw [hcl2]; exact Nat.le_min.2 ⟨hc0, by omega⟩
      have hnc : ¬ n = c := by omega
      have hc00 : ¬ c = 0 := by omega
      clear hcs2 hcl2
      go_upto_region 9 with fail
      first | go_region_law (refine step_copy_splice rfl (.tmp 41) (.tmp 44) 54 54 rfl 9 Tryd.underlying54 (by kernel_rfl) (some ⟨g, c, none⟩) (some ⟨g, 0, none⟩) (n - c) (n - c) c n (by go_simp) (by go_simp) g c (rrow s n c) 9 HGR.out.out cs2 HCL2.out (fun h => ⟨rfl, _, rfl, fun j v hj => two_src HGR.out.out HCS2.out hj⟩) (by rw [rrow_length s n c hcn]; exact hcn3) (by rw [HCS2.out]; exact rep_one s _) w1.heap.size w1 (by repeat (first | exact HBR.out | apply below_drew1 | apply pw_below_drewN)) HGE.out ?_; intro W4 hG4 hB4) | fail
      have HG4 := Lib.hid (rrow_next HCS2.out (by rw [← HCL2.out]; exact hcn3) hG4.out HCL2.out)
      clear hG4
      have hwr : IntKind.i64.wrap ((c : Int) + (cs2.length : Int)) = ((c + cs2.length : Nat) : Int) := (i64_w _).trans (by unfold wrap64; omega)
      refine rput2 rfl rfl ?_
      simp only [List.setIfInBounds_toArray, List.set_cons_succ, List.set_cons_zero, hwr]
      go_wp2_with fail
      go_roundw
      case rel => exact ⟨c + cs2.length, hcn3, fun _ => by omega, by go_num, HG4.out, hB4⟩
      case measure => simp [intOf]; omega
    · have hce : c = n := by omega
      subst hce
      clear hlt
      go_wp2_with fail
      go_ret
      exact ⟨.slice (some ⟨g, 0, none⟩) c c, rfl, rrow_full s HGE.out hn HGR.out.out, HBR.out⟩
def slices_Repeat_string_string.f (l0 : List ByteArray) (a1 : Int) : Option (List ByteArray) := if l0.length = 1 ∧ 0 ≤ a1 ∧ a1 ≤ 1000 then some (List.replicate a1.toNat (rdOf ByteArray.empty l0 0)) else none
theorem slices_Repeat_string_string.calls (A0 : Option Addr) (c0 : Nat) (l0 : List ByteArray) (a1 : Int) (r : List ByteArray) (w : World) (hr0 : Kd.C Kd.string w A0 l0.length l0) (hc0 : l0.length ≤ c0) (h : slices_Repeat_string_string.f l0 a1 = some r) :
    Calls Tryd.prog 43 #[.slice A0 l0.length c0, .int .i64 a1] w fun e w' => ∃ v0_ : Value, e = .returned (v0_) ∧ Kd.R Kd.string 9 w' w.heap.size (fun _ => True) v0_ r ∧ Below w.heap.size w w' := by
  unfold slices_Repeat_string_string.f at h
  split at h
  · rename_i hh
    injection h with h
    subst h
    obtain ⟨h1, h2, h3⟩ := hh
    obtain ⟨s, rfl⟩ := List.length_eq_one_iff.1 h1
    obtain ⟨n, rfl⟩ := Int.eq_ofNat_of_zero_le h2
    exact repeat_any A0 c0 s n w hr0 (by omega)
  · cases h
end Go.Proofs.YtmhagppajcidcaaDoor.Pr
