/- The drawing source: where it lies; a number is picked. -/
import Derived.Test.YtopgkaekbbaglaaSa
namespace Go.Proofs.Ytopgkaekbbaglaa
open Go.RowKit Pl

/-- a slice of bytes that can be read, apart from a block -/
def BSl (w : World) (c : Nat) (v : Value) (n : Nat) (xs : Nat → Int) : Prop :=
  n ≤ 2000 ∧ ((n = 0 ∧ v = .slice none 0 0) ∨ ∃ (a : Addr) (cap : Nat), v = .slice (some a) n cap ∧ n ≤ cap ∧ ∀ i, i < n → (a.block ≠ c ∧ a.block < w.heap.size) ∧ w.cell? (a.add i) = some (.int .u8 (xs i)) ∧ 0 ≤ xs i ∧ xs i ≤ 255)
/-- the source lies at this block, and so many numbers have been picked -/
def DRd (w : World) (c : Nat) (v : Value) (n : Nat) (xs : Nat → Int) (q : Nat) : Prop :=
  w.heap[c]? = some (.cells #[v, .int .i64 q] 84 (0, 0)) ∧ BSl w c v n xs

theorem cell_of_block {w w' : World} {g i : Nat} (h : w'.heap[g]? = w.heap[g]?) : w'.cell? ⟨g, i, none⟩ = w.cell? ⟨g, i, none⟩ := by
  simp only [World.cell?, h]
theorem cell_of_addr {w w' : World} {a : Addr} (i : Nat) (h : w'.heap[a.block]? = w.heap[a.block]?) : w'.cell? (a.add i) = w.cell? (a.add i) := by
  apply World.cell?_of_block
  have e : (a.add i).block = a.block := by unfold Addr.add; split <;> rfl
  rw [e]; exact h
theorem BSl.of {w w' : World} {c c' : Nat} {v : Value} {n : Nat} {xs : Nat → Int} (h : BSl w c v n xs) (hs : w.heap.size ≤ w'.heap.size) (hb : ∀ g, g ≠ c → g < w.heap.size → w'.heap[g]? = w.heap[g]? ∧ g ≠ c') : BSl w' c' v n xs := by
  refine ⟨h.1, h.2.imp id ?_⟩
  rintro ⟨a, cap, rfl, hnc, hx⟩
  exact ⟨a, cap, rfl, hnc, fun i hi => by
    obtain ⟨⟨hg, hlt⟩, hx⟩ := hx i hi
    exact ⟨⟨(hb a.block hg hlt).2, by omega⟩, by rw [cell_of_addr i (hb a.block hg hlt).1]; exact hx⟩⟩
section
variable {w w' : World} {c : Nat} {v : Value} {n : Nat} {xs : Nat → Int} {q : Nat}
theorem DRd.c0 (h : DRd w c v n xs q) : w.cell? ⟨c, 0, none⟩ = some v := by simp [World.cell?, show w.heap[c]? = _ from h.1]
theorem DRd.c1 (h : DRd w c v n xs q) : w.cell? ⟨c, 1, none⟩ = some (.int .i64 q) := by simp [World.cell?, show w.heap[c]? = _ from h.1]
theorem DRd.fz (h : DRd w c v n xs q) (i : Nat) : w.frozen? ⟨c, i, none⟩ = false := by simp [World.frozen?, show w.heap[c]? = _ from h.1]
theorem DRd.lt (h : DRd w c v n xs q) : c < w.heap.size := (Array.getElem?_eq_some_iff.1 h.1).1
theorem DRd.grown (h : DRd w c v n xs q) {r : Option Nat} (hg : w.grownBy w' r) (hr : ∀ j, j < w.heap.size → some j ≠ r) : DRd w' c v n xs q :=
  ⟨(hg.block c h.lt (hr c h.lt)).trans h.1, h.2.of hg.size fun g hgc hlt => ⟨hg.block g hlt (hr g hlt), hgc⟩⟩
theorem DRd.drewN (h : DRd w c v n xs q) (k : Nat) : DRd (w.drewN k) c v n xs q := h
theorem DRd.next (h : DRd w c v n xs q) : DRd (w.setCell ⟨c, 1, none⟩ (.int .i64 ((q : Int) + 1))) c v n xs (q + 1) := by
  have h' : w.heap[c]? = _ := h.1
  refine ⟨by simp [World.setCell, Array.getElem?_modify, h'], h.2.of (by simp [World.setCell]) fun g hg hlt => ⟨?_, hg⟩⟩
  exact Below.heap_setCell w _ _ g hg
end
theorem xor_nat (a b : Nat) (ha : a < 4611686018427387904) (hb : b < 4611686018427387904) : bits .xor .i64 (a : Int) (b : Int) = ((a ^^^ b : Nat) : Int) := by
  have hx : a ^^^ b < 2 ^ 62 := Nat.xor_lt_two_pow (by omega) (by omega)
  have h1 : (BitVec.ofInt 64 (a : Int)).toNat = a := by
    rw [BitVec.ofInt_natCast, BitVec.toNat_ofNat]; exact Nat.mod_eq_of_lt (by omega)
  have h2 : (BitVec.ofInt 64 (b : Int)).toNat = b := by
    rw [BitVec.ofInt_natCast, BitVec.toNat_ofNat]; exact Nat.mod_eq_of_lt (by omega)
  show IntKind.i64.wrap ((BitVec.ofInt 64 (a : Int) ^^^ BitVec.ofInt 64 (b : Int)).toNat : Int) = _
  rw [BitVec.toNat_xor, h1, h2]
  simp only [IntKind.wrap, IntKind.bits, IntKind.signed]
  simp
  omega
theorem xor_nonneg (x : Int) (h0 : 0 ≤ x) (h1 : x < 4611686018427387904) : 0 ≤ bits .xor .i64 x (x / 64) := by
  obtain ⟨a, rfl⟩ := Int.eq_ofNat_of_zero_le h0
  have h : ((a : Int) / 64) = ((a / 64 : Nat) : Int) := by omega
  rw [h, xor_nat a (a / 64) (by omega) (by omega)]
  omega
set_option maxHeartbeats 1000000 in
theorem pick_any (w : World) (c : Nat) (v : Value) (n : Nat) (xs : Nat → Int) (q : Nat) (k : Int) (hd : DRd w c v n xs q) (hq : q ≤ 1000000) (h1 : 1 ≤ k) (h2 : k ≤ 1048576) :
    Calls Try.prog 61 #[.pointer (some ⟨c, 0, none⟩), .int .i64 k] w fun e w' => ∃ j : Nat, (j : Int) < k ∧ e = .returned (.int .i64 j) ∧ DRd w' c v n xs (q + 1) ∧ w.grownBy w' (some c) := by
  have c1 := hd.c1
  have hfz := hd.fz 1
  have HS := Lib.hid hd.next
  have HD := Lib.hid hd
  have hk : decide (k < 1) = false := by simp; omega
  have c0 := HS.out.c0
  have c1' : (w.setCell ⟨c, 1, none⟩ (.int .i64 ((q : Int) + 1))).cell? ⟨c, 1, none⟩ = some (.int .i64 ((q : Int) + 1)) := HS.out.c1
  rcases hd.2 with ⟨hn, ⟨rfl, rfl⟩ | ⟨a, cap, rfl, hnc, hx0'⟩⟩
  · clear hd hn
    go_enter Try.func61, Try.ntmps61
    go_wp2_with fail
    go_ret
    exact ⟨0, by omega, rfl, HS.out, grown_set _ _ _ _⟩
  · have hx : ∀ i, i < n → w.cell? (a.add i) = some (.int .u8 (xs i)) ∧ 0 ≤ xs i ∧ xs i ≤ 255 := fun i hi => (hx0' i hi).2
    have hx' : ∀ i, i < n → (w.setCell ⟨c, 1, none⟩ (.int .i64 ((q : Int) + 1))).cell? (a.add i) = some (.int .u8 (xs i)) := fun i hi => by
      rw [cell_of_addr i (Below.heap_setCell w _ _ a.block (hx0' i hi).1.1)]
      exact (hx i hi).1
    by_cases h0 : n = 0
    · subst h0
      clear hd hn hx0' hx hx'
      go_enter Try.func61, Try.ntmps61
      go_wp2_with fail
      go_ret
      exact ⟨0, by omega, rfl, HS.out, grown_set _ _ _ _⟩
    · have hb : ((n : Int) == 0) = false := by simp; omega
      by_cases hlt : q < n
      · have hl : decide ((q : Int) < n) = true := by simp; omega
        have hc := hx' q hlt
        have hx0 := (hx q hlt).2
        clear hd hn hx0' hx hx' h0
        go_enter Try.func61, Try.ntmps61
        go_wp2_with fail
        go_ret
        exact ⟨(xs q % k).toNat, by have := Int.emod_nonneg (xs q) (show k ≠ 0 by omega); have := Int.emod_lt_of_pos (xs q) (show 0 < k by omega); omega, (ret_int (Int.toNat_of_nonneg (Int.emod_nonneg (xs q) (show k ≠ 0 by omega)))).symm, HS.out, grown_set _ _ _ _⟩
      · have hn0 : (0 : Int) < n := by omega
        have a0 := Int.emod_nonneg (q : Int) (show (n : Int) ≠ 0 by omega)
        have a1 := Int.emod_lt_of_pos (q : Int) hn0
        have b0 := Int.emod_nonneg ((q : Int) * 7 + 3) (show (n : Int) ≠ 0 by omega)
        have b1 := Int.emod_lt_of_pos ((q : Int) * 7 + 3) hn0
        have ha := Nat.mod_lt q (show n > 0 by omega)
        have hb' := Nat.mod_lt (q * 7 + 3) (show n > 0 by omega)
        have hca := hx' (q % n) ha
        have hcb := hx' ((q * 7 + 3) % n) hb'
        have hxa := (hx (q % n) ha).2
        have hxb := (hx ((q * 7 + 3) % n) hb').2
        have d0 : (0 : Int) ≤ (q : Int) / n := Int.ediv_nonneg (by omega) (by omega)
        have d1 : (q : Int) / n ≤ q := Int.ediv_le_self _ (by omega)
        clear hd hx0' hx hx'
        go_enter Try.func61, Try.ntmps61
        go_wp2_with fail
        go_quiet (fail)
        go_wp2_with fail
        go_ret
        have hz := xor_nonneg (xs (q % n) * 131 + xs ((q * 7 + 3) % n) * 1117 + (q : Int) * 29 + (q : Int) / n * 53) (by omega) (by omega)
        have hm := Int.tmod_nonneg k hz
        refine ⟨_, ?_, (ret_int (Int.toNat_of_nonneg hm)).symm, HS.out.drewN _, World.grownBy.trans (grown_set _ _ _ _) (grown_drewN _ _ _)⟩
        have := Int.tmod_lt_of_pos (bits .xor .i64 (xs (q % n) * 131 + xs ((q * 7 + 3) % n) * 1117 + (q : Int) * 29 + (q : Int) / n * 53) ((xs (q % n) * 131 + xs ((q * 7 + 3) % n) * 1117 + (q : Int) * 29 + (q : Int) / n * 53) / 64)) (show 0 < k by omega)
        omega
end Go.Proofs.Ytopgkaekbbaglaa
