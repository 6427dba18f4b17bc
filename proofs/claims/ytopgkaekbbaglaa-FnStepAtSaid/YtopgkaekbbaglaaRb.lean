/- The drawing source: one of a list. -/
import Derived.Test.YtopgkaekbbaglaaRa
namespace Go.Proofs.Ytopgkaekbbaglaa
open Go.RowKit Pl

/-- a row of strings that can be read -/
def SSl (w : World) (b n : Nat) (f : Nat → ByteArray) : Prop := b < w.heap.size ∧ ∀ i, i < n → w.cell? ⟨b, i, none⟩ = some (.string (f i))
/-- a row of numbers that can be read -/
def ISl (w : World) (b n : Nat) (f : Nat → Int) : Prop := b < w.heap.size ∧ ∀ i, i < n → w.cell? ⟨b, i, none⟩ = some (.int .i64 (f i))
theorem SSl.grown {w w' : World} {b n : Nat} {f : Nat → ByteArray} {r : Option Nat} (h : SSl w b n f) (hg : w.grownBy w' r) (hr : some b ≠ r) : SSl w' b n f :=
  ⟨Nat.lt_of_lt_of_le h.1 hg.size, fun i hi => by rw [cell_of_block (hg.block b h.1 hr)]; exact h.2 i hi⟩
theorem ISl.grown {w w' : World} {b n : Nat} {f : Nat → Int} {r : Option Nat} (h : ISl w b n f) (hg : w.grownBy w' r) (hr : some b ≠ r) : ISl w' b n f :=
  ⟨Nat.lt_of_lt_of_le h.1 hg.size, fun i hi => by rw [cell_of_block (hg.block b h.1 hr)]; exact h.2 i hi⟩
theorem ret_str {a b : ByteArray} (h : a = b) : Ending.returned (.string a) = .returned (.string b) := by rw [h]

set_option maxHeartbeats 1000000 in
theorem of_any (w : World) (c : Nat) (v : Value) (n : Nat) (xs : Nat → Int) (q : Nat) (b m cap : Nat) (f : Nat → ByteArray) (hd : DRd w c v n xs q) (hq : q ≤ 1000000) (h1 : 1 ≤ m) (h2 : m ≤ 1000) (hs : SSl w b m f) (hb : b ≠ c) :
    Calls Try.prog 55 #[.pointer (some ⟨c, 0, none⟩), .slice (some ⟨b, 0, none⟩) m cap] w fun e w' => ∃ j : Nat, j < m ∧ e = .returned (.string (f j)) ∧ DRd w' c v n xs (q + 1) ∧ w.grownBy w' (some c) := by
  have HD := Lib.hid hd
  have HS := Lib.hid hs
  clear hd hs
  go_enter Try.func55, Try.ntmps55
  go_wp2_with fail
  refine (pick_any w c v n xs q m HD.out hq (by omega) (by omega)).mono ?_
  rintro e w1 ⟨j, hj, rfl, hd1, hg⟩
  have hj' : j < m := by omega
  have hcell := (HS.out.grown hg (fun h => hb (Option.some.inj h))).2 j hj'
  have HD1 := Lib.hid hd1
  have HG := Lib.hid hg
  clear hd1 hg
  go_wp2_with fail
  go_ret
  exact ⟨j, hj', rfl, HD1.out, HG.out⟩
set_option maxHeartbeats 1000000 in
theorem num_any (w : World) (c : Nat) (v : Value) (n : Nat) (xs : Nat → Int) (q : Nat) (b m cap : Nat) (f : Nat → Int) (hd : DRd w c v n xs q) (hq : q ≤ 1000000) (h1 : 1 ≤ m) (h2 : m ≤ 1000) (hs : ISl w b m f) (hb : b ≠ c) :
    Calls Try.prog 62 #[.pointer (some ⟨c, 0, none⟩), .slice (some ⟨b, 0, none⟩) m cap] w fun e w' => ∃ j : Nat, j < m ∧ e = .returned (.int .i64 (f j)) ∧ DRd w' c v n xs (q + 1) ∧ w.grownBy w' (some c) := by
  have HD := Lib.hid hd
  have HS := Lib.hid hs
  clear hd hs
  go_enter Try.func62, Try.ntmps62
  go_wp2_with fail
  refine (pick_any w c v n xs q m HD.out hq (by omega) (by omega)).mono ?_
  rintro e w1 ⟨j, hj, rfl, hd1, hg⟩
  have hj' : j < m := by omega
  have hcell := (HS.out.grown hg (fun h => hb (Option.some.inj h))).2 j hj'
  have HD1 := Lib.hid hd1
  have HG := Lib.hid hg
  clear hd1 hg
  go_wp2_with fail
  go_ret
  exact ⟨j, hj', rfl, HD1.out, HG.out⟩
set_option maxHeartbeats 1000000 in
theorem known_any (w : World) (k : Nat) (hk : k < 15) :
    Calls Try.prog 73 #[.int .i64 k] w fun e w' => ∃ s : ByteArray, 1 ≤ s.size ∧ s.size ≤ 100 ∧ e = .returned (.string s) ∧ w.grownBy w' none := by
  have hm : ((k : Int) % 15) = k := by omega
  go_enter Try.func73, Try.ntmps73
  go_wp2_with fail
  go_ret
  rcases (show k = 0 ∨ k = 1 ∨ k = 2 ∨ k = 3 ∨ k = 4 ∨ k = 5 ∨ k = 6 ∨ k = 7 ∨ k = 8 ∨ k = 9 ∨ k = 10 ∨ k = 11 ∨ k = 12 ∨ k = 13 ∨ k = 14 by omega) with rfl | rfl | rfl | rfl | rfl | rfl | rfl | rfl | rfl | rfl | rfl | rfl | rfl | rfl | rfl <;> exact ⟨_, by decide, by decide, rfl, World.grownBy_alloc _ _ _⟩
end Go.Proofs.Ytopgkaekbbaglaa
