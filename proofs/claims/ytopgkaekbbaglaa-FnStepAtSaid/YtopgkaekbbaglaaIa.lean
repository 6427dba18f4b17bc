/- Contracts of the program's reader: a byte, a letter. -/
import Derived.Test.YtopgkaekbbaglaaRows
import Derived.Test.YtopgkaekbbaglaaPlain
import Derived.WalkKit
import Derived.WalkSpells
import Derived.WalkLawsBesides
import Derived.Deep.QuietTactic
import Derived.BigQuiet
import Derived.Deep.Draws
import Derived.Lib.Hide
import Derived.Outline
import Derived.Maps.AppendAt
namespace Go.Proofs.Ytopgkaekbbaglaa
open Go.RowKit Pl

/-- the reader lies at this block -/
def Rdr (w : World) (b : Nat) (p : ByteArray) (n : Nat) : Prop := w.heap[b]? = some (.cells #[.string p, .int .i64 n] 76 (0, 0))

theorem Rdr.c0 {w : World} {b n : Nat} {p : ByteArray} (h : Rdr w b p n) : w.cell? ⟨b, 0, none⟩ = some (.string p) := by
  simp [World.cell?, show w.heap[b]? = _ from h]
theorem Rdr.c1 {w : World} {b n : Nat} {p : ByteArray} (h : Rdr w b p n) : w.cell? ⟨b, 1, none⟩ = some (.int .i64 n) := by
  simp [World.cell?, show w.heap[b]? = _ from h]
theorem Rdr.fz {w : World} {b n : Nat} {p : ByteArray} (h : Rdr w b p n) (i : Nat) : w.frozen? ⟨b, i, none⟩ = false := by
  simp [World.frozen?, show w.heap[b]? = _ from h]

theorem Rdr.set {w : World} {b n m : Nat} {p : ByteArray} (h : Rdr w b p n) : Rdr (w.setCell ⟨b, 1, none⟩ (.int .i64 m)) b p m := by
  have h' : w.heap[b]? = _ := h
  simp [Rdr, World.setCell, Array.getElem?_modify, h']
theorem Rdr.drewN {w : World} {b n : Nat} {p : ByteArray} (h : Rdr w b p n) (k : Nat) : Rdr (w.drewN k) b p n := h
theorem Rdr.lt {w : World} {b n : Nat} {p : ByteArray} (h : Rdr w b p n) : b < w.heap.size := (Array.getElem?_eq_some_iff.1 h).1
theorem Rdr.grown {w w' : World} {b n : Nat} {p : ByteArray} (h : Rdr w b p n) {r : Option Nat} (hg : w.grownBy w' r) (hr : some b ≠ r) : Rdr w' b p n := (hg.block b h.lt hr).trans h
theorem grown_drewN (w : World) (k : Nat) (r : Option Nat) : w.grownBy (w.drewN k) r := ⟨rfl, rfl, rfl, Nat.le_refl _, fun _ _ _ => rfl⟩
theorem grown_set (w : World) (b i : Nat) (v : Value) : w.grownBy (w.setCell ⟨b, i, none⟩ v) (some b) :=
  ⟨rfl, rfl, rfl, by simp [World.setCell], fun j _ hj => Below.heap_setCell _ _ _ _ (fun e => hj (by rw [e]))⟩
theorem bAt_get {p : ByteArray} {n : Nat} (h : n < p.size) : p[n]'h = bAt p n := by
  unfold bAt Array.getD
  exact (dif_pos (show n < p.data.size from h)).symm

set_option maxHeartbeats 400000 in
theorem takes_out (w : World) (b n : Nat) (p : ByteArray) (c : Int) (hr : Rdr w b p n) (hn : p.size ≤ n) :
    Calls Try.prog 70 #[.pointer (some ⟨b, 0, none⟩), .int .u8 c] w fun e w' => e = .returned (.bool false) ∧ ∃ k, w' = w.drewN k := by
  have h0 := hr.c0
  have h1 := hr.c1
  have h2 : decide (p.size ≤ n) = true := by simp; omega
  go_enter Try.func70, Try.ntmps70
  go_wp2_with fail
  go_quiet (fail)
  go_wp2_with fail
  go_ret
  exact ⟨rfl, _, rfl⟩

set_option maxHeartbeats 400000 in
theorem takes_no (w : World) (b n : Nat) (p : ByteArray) (c : Int) (hr : Rdr w b p n) (hn : n < p.size) (hc : ((bAt p n).toNat : Int) ≠ c) :
    Calls Try.prog 70 #[.pointer (some ⟨b, 0, none⟩), .int .u8 c] w fun e w' => e = .returned (.bool false) ∧ ∃ k, w' = w.drewN k := by
  have h0 := hr.c0
  have h1 := hr.c1
  have h2 : decide (p.size ≤ n) = false := by simp; omega
  have h3 : (((p[n]'hn).toNat : Int) != c) = true := by rw [bAt_get hn]; simpa using hc
  clear hc
  go_enter Try.func70, Try.ntmps70
  go_wp2_with fail
  go_quiet (fail)
  go_wp2_with fail
  go_ret
  exact ⟨rfl, _, rfl⟩

set_option maxHeartbeats 400000 in
theorem takes_yes (w : World) (b n : Nat) (p : ByteArray) (c : Int) (hr : Rdr w b p n) (hs : p.size ≤ 1048576) (hn : n < p.size) (hc : ((bAt p n).toNat : Int) = c) :
    Calls Try.prog 70 #[.pointer (some ⟨b, 0, none⟩), .int .u8 c] w fun e w' => e = .returned (.bool true) ∧ ∃ k, w' = (w.drewN k).setCell ⟨b, 1, none⟩ (.int .i64 (n + 1 : Nat)) := by
  have h0 := hr.c0
  have h1 := hr.c1
  have hf := hr.fz 1
  have h2 : decide (p.size ≤ n) = false := by simp; omega
  have h3 : (((p[n]'hn).toNat : Int) != c) = false := by rw [bAt_get hn]; simpa using hc
  clear hc
  go_enter Try.func70, Try.ntmps70
  go_wp2_with fail
  go_quiet (fail)
  go_wp2_with fail
  go_ret
  exact ⟨rfl, _, rfl⟩

/-- takes: past a byte, if it is the next one -/
theorem takes_any (w : World) (b n : Nat) (p : ByteArray) (c : UInt8) (ci : Int) (hci : (c.toNat : Int) = ci) (hr : Rdr w b p n) (hs : p.size ≤ 1048576) :
    Calls Try.prog 70 #[.pointer (some ⟨b, 0, none⟩), .int .u8 ci] w fun e w' => e = .returned (.bool (isAt p n c)) ∧ Rdr w' b p (if isAt p n c = true then n + 1 else n) ∧ w.grownBy w' (some b) := by
  by_cases hn : n < p.size
  · by_cases hc : bAt p n = c
    · have e : isAt p n c = true := by simp [isAt, hn, hc]
      refine (takes_yes w b n p ci hr hs hn (by rw [hc]; exact hci)).mono ?_
      rintro e' w' ⟨rfl, k, rfl⟩
      rw [e, if_pos rfl]
      exact ⟨rfl, (hr.drewN k).set, World.grownBy.trans (grown_drewN w k _) (grown_set _ _ _ _)⟩
    · have e : isAt p n c = false := by simp [isAt, hc]
      refine (takes_no w b n p ci hr hn (by rw [← hci]; intro h; exact hc (UInt8.toNat_inj.1 (by omega)))).mono ?_
      rintro e' w' ⟨rfl, k, rfl⟩
      rw [e, if_neg (by decide)]
      exact ⟨rfl, hr.drewN k, grown_drewN w k _⟩
  · have e : isAt p n c = false := by simp [isAt, hn]
    refine (takes_out w b n p ci hr (by omega)).mono ?_
    rintro e' w' ⟨rfl, k, rfl⟩
    rw [e, if_neg (by decide)]
    exact ⟨rfl, hr.drewN k, grown_drewN w k _⟩
end Go.Proofs.Ytopgkaekbbaglaa
