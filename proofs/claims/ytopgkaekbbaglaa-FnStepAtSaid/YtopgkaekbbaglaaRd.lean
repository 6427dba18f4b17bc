/- The drawing source: a program, a text, a place are drawn. -/
import Derived.Test.YtopgkaekbbaglaaRc
import Derived.Test.YtopgkaekbbaglaaFh
import Derived.BigCall
import Derived.BigRegion
namespace Go.Proofs.Ytopgkaekbbaglaa
set_option linter.unusedVariables false
set_option linter.unusedSimpArgs false
open Go.RowKit Pl

theorem grown_of {w w' : World} (h : Below w.heap.size w w') (r : Option Nat) : w.grownBy w' r := ⟨h.os, h.tape, h.output, h.size, fun j hj _ => h.block j hj⟩
theorem DRd.below {w w' : World} {c : Nat} {v : Value} {n : Nat} {xs : Nat → Int} {q : Nat} (h : DRd w c v n xs q) (hb : Below w.heap.size w w') : DRd w' c v n xs q :=
  h.grown (grown_of hb none) (by simp)

theorem DRd.heap {w w' : World} {c : Nat} {v : Value} {n : Nat} {xs : Nat → Int} {q : Nat} (h : DRd w c v n xs q) (e : w'.heap = w.heap) : DRd w' c v n xs q := by
  obtain ⟨h1, h2⟩ := h
  exact ⟨by rw [e]; exact h1, h2.of (by rw [e]; exact Nat.le_refl _) fun g hg _ => ⟨by rw [e], hg⟩⟩
theorem SSl.heap {w w' : World} {b n : Nat} {f : Nat → ByteArray} (h : SSl w b n f) (e : w'.heap = w.heap) : SSl w' b n f :=
  ⟨by rw [e]; exact h.1, fun i hi => (cell_of_block (w := w) (w' := w') (by rw [e])).trans (h.2 i hi)⟩
theorem ISl.heap {w w' : World} {b n : Nat} {f : Nat → Int} (h : ISl w b n f) (e : w'.heap = w.heap) : ISl w' b n f :=
  ⟨by rw [e]; exact h.1, fun i hi => (cell_of_block (w := w) (w' := w') (by rw [e])).trans (h.2 i hi)⟩
/-- the rest of a world: all but the memory and the tape's place -/
theorem grown_heap {w w' w'' : World} {r : Option Nat} (h : w.grownBy w' r) (e : w''.heap = w'.heap) (e1 : w''.os = w'.os) (e2 : w''.tape = w'.tape) (e3 : w''.output = w'.output) : w.grownBy w'' r :=
  ⟨e1.trans h.os, e2.trans h.tape, e3.trans h.output, by rw [e]; exact h.size, fun j hj hr => by rw [e]; exact h.block j hj hr⟩

/-- a draw: so long at most, so many picks at most -/
def DrawPost (c : Nat) (v : Value) (n : Nat) (xs : Nat → Int) (w : World) (q lo hi pk : Nat) (e : Ending) (w' : World) : Prop :=
  ∃ (s : ByteArray) (q' : Nat), lo ≤ s.size ∧ s.size ≤ hi ∧ q ≤ q' ∧ q' ≤ q + pk ∧ e = .returned (.string s) ∧ DRd w' c v n xs q' ∧ w.grownBy w' (some c)

set_option maxHeartbeats 1000000 in
set_option maxRecDepth 100000 in
theorem good_any (w : World) (c : Nat) (v : Value) (n : Nat) (xs : Nat → Int) (q : Nat) (hd : DRd w c v n xs q) (hq : q ≤ 100000) :
    Calls Try.prog 63 #[.pointer (some ⟨c, 0, none⟩)] w (DrawPost c v n xs w q 1 1000 1600) := by
  have HD := Lib.hid hd
  clear hd
  go_enter Try.func63, Try.ntmps63
  go_wp2_with fail
  refine (pick_any w c v n xs q 3 HD.out (by omega) (by omega) (by omega)).mono ?_
  rintro e w1 ⟨j, hj, rfl, hd1, hg1⟩
  have HD1 := Lib.hid hd1
  have HG1 := Lib.hid hg1
  clear hd1 hg1
  by_cases hz : j = 0
  · have hz' : ((j : Int) == 0) = true := by simp; omega
    clear hz hj
    go_wp2_with fail
    refine (pick_any w1 c v n xs (q + 1) 15 HD1.out (by omega) (by omega) (by omega)).mono ?_
    rintro e w2 ⟨j2, hj2, rfl, hd2, hg2⟩
    have HD2 := Lib.hid hd2
    have HG2 := Lib.hid (World.grownBy.trans HG1.out hg2)
    clear hd2 hg2
    go_wp2_with fail
    refine (known_any w2 j2 (by omega)).mono ?_
    rintro e w3 ⟨s, hs1, hs2, rfl, hg3⟩
    have HD3 := Lib.hid (HD2.out.grown hg3 (by simp))
    have HG3 := Lib.hid (World.grownBy.trans HG2.out ⟨hg3.os, hg3.tape, hg3.output, hg3.size, fun j hj _ => hg3.block j hj (by simp)⟩)
    clear hg3
    go_wp2_with fail
    go_ret
    exact ⟨s, q + 2, hs1, by omega, by omega, by omega, rfl, HD3.out, HG3.out⟩
  · have hz' : ((j : Int) == 0) = false := by simp; omega
    clear hz hj
    go_wp2_with fail
    have hB := World.grownBy_alloc w1 (.cells #[.string ⟨#[97, 98]⟩, .string ⟨#[97]⟩, .string ⟨#[97, 98, 99]⟩] 9) (some c)
    have hBD := HD1.out.grown (World.grownBy_alloc w1 (.cells #[.string ⟨#[97, 98]⟩, .string ⟨#[97]⟩, .string ⟨#[97, 98, 99]⟩] 9) none) (by simp)
    refine (of_any _ c v n xs (q + 1) w1.heap.size 3 3 (fun i => [ByteArray.mk #[97, 98], ByteArray.mk #[97], ByteArray.mk #[97, 98, 99]].getD i ⟨#[]⟩) hBD (by omega) (by omega) (by omega) (SSl_alloc w1 [ByteArray.mk #[97, 98], ByteArray.mk #[97], ByteArray.mk #[97, 98, 99]] 9) (Nat.ne_of_gt HD1.out.lt)).mono ?_
    rintro e w2 ⟨j2, hj2, rfl, hd2, hg2⟩
    have hL : 1 ≤ ([ByteArray.mk #[97, 98], ByteArray.mk #[97], ByteArray.mk #[97, 98, 99]].getD j2 ⟨#[]⟩).size ∧ ([ByteArray.mk #[97, 98], ByteArray.mk #[97], ByteArray.mk #[97, 98, 99]].getD j2 ⟨#[]⟩).size ≤ 3 := by
      rcases (show j2 = 0 ∨ j2 = 1 ∨ j2 = 2 by omega) with rfl | rfl | rfl <;> decide
    have HD2 := Lib.hid hd2
    have HG2 := Lib.hid (World.grownBy.trans HG1.out (World.grownBy.trans hB hg2))
    clear hd2 hg2 hB hBD hj2
    generalize [ByteArray.mk #[97, 98], ByteArray.mk #[97], ByteArray.mk #[97, 98, 99]].getD j2 ⟨#[]⟩ = t2 at *
    obtain ⟨hL1, hL2⟩ := hL
    go_wp2_with fail
    refine (draw_body 2 (Nat.le_refl _) w2 c v n xs (q + 2) t2 HD2.out (by show q + 2 + 1 + 4 * 383 ≤ _; omega) hL1 (by omega)).mono ?_
    rintro e w3 ⟨s3, q3, hs3, hq3, hq3', rfl, hd3, hg3⟩
    have hs3' : s3.size ≤ 948 := hs3
    have hq4 : q3 ≤ q + 2 + 1 + 1532 := hq3'
    have HD3 := Lib.hid hd3
    have HG3 := Lib.hid (World.grownBy.trans HG2.out hg3)
    clear hd3 hg3 hs3 hq3'
    go_wp2_with fail
    have hsz : ((ByteArray.mk #[123]) ++ t2 ++ (ByteArray.mk #[58]) ++ s3 ++ (ByteArray.mk #[125])).size ≤ 960 ∧ 1 ≤ ((ByteArray.mk #[123]) ++ t2 ++ (ByteArray.mk #[58]) ++ s3 ++ (ByteArray.mk #[125])).size := by
      simp only [ByteArray.size_append, lit1_]; omega
    generalize (ByteArray.mk #[123]) ++ t2 ++ (ByteArray.mk #[58]) ++ s3 ++ (ByteArray.mk #[125]) = t at *
    refine (svalid_any t w3 (by omega)).mono ?_
    rintro e w4 ⟨rfl, hb⟩
    have HD4 := Lib.hid (HD3.out.below hb)
    have HG4 := Lib.hid (World.grownBy.trans HG3.out (grown_of hb (some c)))
    clear hb
    cases (SParse t).isSome
    · go_wp2_with fail
      go_ret
      exact ⟨_, q3, by decide, by decide, by omega, by omega, rfl, HD4.out, HG4.out⟩
    · go_wp2_with fail
      go_ret
      exact ⟨_, q3, hsz.2, by omega, by omega, by omega, rfl, HD4.out, HG4.out⟩
theorem wrap_sum (a b : Nat) (ha : a ≤ 1048576) (hb : b ≤ 1048576) : IntKind.i64.wrap ((a : Int) + (b : Int)) = (a : Int) + b := by
  simp only [IntKind.wrap, IntKind.bits, IntKind.signed]
  simp
  omega
set_option maxHeartbeats 1000000 in
set_option maxRecDepth 100000 in
theorem text_any (w : World) (c : Nat) (v : Value) (n : Nat) (xs : Nat → Int) (q : Nat) (hd : DRd w c v n xs q) (hq : q ≤ 90000) :
    Calls Try.prog 54 #[.pointer (some ⟨c, 0, none⟩)] w (DrawPost c v n xs w q 0 2010 1610) := by
  have HD := Lib.hid hd
  clear hd
  go_enter Try.func54, Try.ntmps54
  go_wp2_with fail
  refine (good_any w c v n xs q HD.out (by omega)).mono ?_
  rintro e w1 ⟨s, q1, hs1, hs2, hq1, hq1', rfl, hd1, hg1⟩
  have HD1 := Lib.hid hd1
  have HG1 := Lib.hid hg1
  clear hd1 hg1
  go_wp2_with fail
  refine (pick_any w1 c v n xs q1 14 HD1.out (by omega) (by omega) (by omega)).mono ?_
  rintro e w2 ⟨j, hj, rfl, hd2, hg2⟩
  have HD2 := Lib.hid hd2
  have HG2 := Lib.hid (World.grownBy.trans HG1.out hg2)
  clear hd2 hg2
  by_cases hz : 0 < j
  · have hz' : decide ((0 : Int) < (j : Int)) = true := by simp; omega
    go_wp2_with fail
    go_ret
    exact ⟨s, q1 + 1, by omega, by omega, by omega, by omega, rfl, HD2.out, HG2.out⟩
  · have hz' : decide ((0 : Int) < (j : Int)) = false := by simp; omega
    go_wp2_with fail
    refine (pick_any w2 c v n xs (q1 + 1) s.size HD2.out (by omega) (by omega) (by omega)).mono ?_
    rintro e w3 ⟨k, hk, rfl, hd3, hg3⟩
    have hk' : k < s.size := by omega
    have HD3 := Lib.hid hd3
    have HG3 := Lib.hid (World.grownBy.trans HG2.out hg3)
    clear hd3 hg3 hk
    go_wp2_with fail
    have hB := World.grownBy_alloc w3 (.cells #[.string ⟨#[]⟩, .string ⟨#[123]⟩, .string ⟨#[125]⟩, .string ⟨#[43]⟩, .string ⟨#[97]⟩, .string ⟨#[91]⟩, .string ⟨#[43, 99]⟩] 9) (some c)
    have hBD := HD3.out.grown (World.grownBy_alloc w3 (.cells #[.string ⟨#[]⟩, .string ⟨#[123]⟩, .string ⟨#[125]⟩, .string ⟨#[43]⟩, .string ⟨#[97]⟩, .string ⟨#[91]⟩, .string ⟨#[43, 99]⟩] 9) none) (by simp)
    have hBS := SSl_alloc w3 [ByteArray.mk #[], ByteArray.mk #[123], ByteArray.mk #[125], ByteArray.mk #[43], ByteArray.mk #[97], ByteArray.mk #[91], ByteArray.mk #[43, 99]] 9
    have hLL : ∀ j, j < 7 → ([ByteArray.mk #[], ByteArray.mk #[123], ByteArray.mk #[125], ByteArray.mk #[43], ByteArray.mk #[97], ByteArray.mk #[91], ByteArray.mk #[43, 99]].getD j ⟨#[]⟩).size ≤ 2 := by
      intro j hj
      rcases (show j = 0 ∨ j = 1 ∨ j = 2 ∨ j = 3 ∨ j = 4 ∨ j = 5 ∨ j = 6 by omega) with rfl | rfl | rfl | rfl | rfl | rfl | rfl <;> decide
    have HOF := Lib.hid (fun (W : World) (e : W.heap = (w3.alloc (.cells #[.string ⟨#[]⟩, .string ⟨#[123]⟩, .string ⟨#[125]⟩, .string ⟨#[43]⟩, .string ⟨#[97]⟩, .string ⟨#[91]⟩, .string ⟨#[43, 99]⟩] 9)).heap) =>
      of_any W c v n xs (q1 + 2) w3.heap.size 7 7 (fun i => [ByteArray.mk #[], ByteArray.mk #[123], ByteArray.mk #[125], ByteArray.mk #[43], ByteArray.mk #[97], ByteArray.mk #[91], ByteArray.mk #[43, 99]].getD i ⟨#[]⟩) (hBD.heap e) (by omega) (by omega) (by omega) (SSl.heap hBS e) (Nat.ne_of_gt HD3.out.lt))
    have HB := Lib.hid hB
    have HLL := Lib.hid hLL
    clear hB hBD hBS hLL
    go_region_with (first
      | (go_at_call 55
         refine Calls.mono (HOF.out _ (by rfl)) ?_
         rintro e w4 ⟨j4, hj4, rfl, hd4, hg4⟩
         have hL4 := HLL.out j4 hj4
         have HD4 := Lib.hid hd4
         have HG4 := Lib.hid (World.grownBy.trans HG3.out (World.grownBy.trans (grown_heap HB.out (by rfl) (by rfl) (by rfl) (by rfl)) hg4))
         clear hd4 hg4 hj4
         generalize [ByteArray.mk #[], ByteArray.mk #[123], ByteArray.mk #[125], ByteArray.mk #[43], ByteArray.mk #[97], ByteArray.mk #[91], ByteArray.mk #[43, 99]].getD j4 ⟨#[]⟩ = t4 at *)
      | (go_at_call 61
         refine Calls.mono (pick_any _ c v n xs (q1 + 3) 2 (HD4.out.heap (by rfl)) (by omega) (by omega) (by omega)) ?_
         rintro e w5 ⟨j5, hj5, rfl, hd5, hg5⟩
         have hj5' : j5 < 2 := by omega
         have hks : k + j5 ≤ s.size := by omega
         have hki : (k : Int) + (j5 : Int) ≤ (s.size : Int) := by omega
         have hkj : (0 : Int) ≤ (k : Int) + (j5 : Int) := by omega
         have hwr := wrap_sum k j5 (by omega) (by omega)
         have HD5 := Lib.hid hd5
         have HG5 := Lib.hid (World.grownBy.trans (grown_heap HG4.out (by rfl) (by rfl) (by rfl) (by rfl)) hg5)
         clear hd5 hg5 hj5))
    all_goals
      have hsz := Lib.hid (show (s.extract 0 k ++ t4 ++ s.extract (k + j5) s.size).size ≤ 2010 by simp only [ByteArray.size_append, ByteArray.size_extract]; omega)
      clear hwr
      go_wp2_with fail
      go_ret
      exact ⟨_, q1 + 4, Nat.zero_le _, hsz.out, by omega, by omega, rfl, HD5.out.heap (by rfl), grown_heap HG5.out (by rfl) (by rfl) (by rfl) (by rfl)⟩
end Go.Proofs.Ytopgkaekbbaglaa
