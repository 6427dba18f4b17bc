/- The drawing source opened; the draws of StepAt's and CountSteps' arguments. -/
import Derived.Test.YtopgkaekbbaglaaRd
namespace Go.Proofs.Ytopgkaekbbaglaa
set_option linter.unusedVariables false
set_option linter.unusedSimpArgs false
open Go.RowKit Pl

/-- an argument of bytes -/
def BArg (w : World) (v : Value) (n : Nat) (xs : Nat → Int) : Prop :=
  (n = 0 ∧ v = .slice none 0 0) ∨ ∃ (a : Addr) (cap : Nat), v = .slice (some a) n cap ∧ n ≤ cap ∧ ∀ i, i < n → a.block < w.heap.size ∧ w.cell? (a.add i) = some (.int .u8 (xs i)) ∧ 0 ≤ xs i ∧ xs i ≤ 255
theorem BArg.below {w w' : World} {v : Value} {n : Nat} {xs : Nat → Int} (h : BArg w v n xs) (hb : Below w.heap.size w w') : BArg w' v n xs := by
  refine h.imp id ?_
  rintro ⟨a, cap, rfl, hnc, hx⟩
  exact ⟨a, cap, rfl, hnc, fun i hi => by
    obtain ⟨hlt, hx⟩ := hx i hi
    exact ⟨Nat.lt_of_lt_of_le hlt hb.size, by rw [cell_of_addr i (hb.block a.block hlt)]; exact hx⟩⟩

def OpenPost (w : World) (xs : Nat → Int) (e : Ending) (w' : World) : Prop :=
  ∃ (v : Value) (n : Nat), e = .returned (.pointer (some ⟨w.heap.size, 0, none⟩)) ∧ DRd w' w.heap.size v n xs 0 ∧ Below w.heap.size w w'
theorem open_made {w : World} {v : Value} {n : Nat} {xs : Nat → Int} (h : BArg w v n xs) (hn : n ≤ 2000) : DRd (w.alloc (.cells #[v, .int .i64 0] 84)) w.heap.size v n xs 0 := by
  have e : (w.alloc (.cells #[v, .int .i64 0] 84)).heap[w.heap.size]? = some (.cells #[v, .int .i64 0] 84 (0, 0)) := by
    show (w.heap.push _)[w.heap.size]? = _
    simp
  refine ⟨e, hn, h.imp id ?_⟩
  rintro ⟨a, cap, rfl, hnc, hx⟩
  exact ⟨a, cap, rfl, hnc, fun i hi => by
    obtain ⟨hlt, hx⟩ := hx i hi
    have hb : (w.alloc (.cells #[Value.slice (some a) n cap, .int .i64 0] 84)).heap[a.block]? = w.heap[a.block]? := (World.grownBy_alloc w _ none).block _ hlt (by simp)
    exact ⟨⟨Nat.ne_of_lt hlt, Nat.lt_of_lt_of_le hlt (World.grownBy_alloc w _ none).size⟩, by rw [cell_of_addr i hb]; exact hx⟩⟩
set_option maxHeartbeats 1000000 in
theorem open_any (w : World) (v : Value) (n : Nat) (xs : Nat → Int) (hn : n ≤ 1048576) (h : BArg w v n xs) : Calls Try.prog 53 #[v] w (OpenPost w xs) := by
  have H := Lib.hid h
  have HB := Lib.hid (fun o => below_of (World.grownBy_alloc w o none))
  rcases h with ⟨rfl, rfl⟩ | ⟨a, cap, rfl, hnc, hx⟩
  · go_enter Try.func53, Try.ntmps53
    go_wp2_with fail
    go_ret
    exact ⟨_, 0, rfl, open_made H.out (by omega), HB.out _⟩
  · clear hx
    by_cases h2 : 2000 < n
    · have H2 := Lib.hid (show BArg w (.slice (some a) 2000 cap) 2000 xs by
        rcases H.out with ⟨rfl, h⟩ | ⟨a', cap', e, hnc, hx⟩
        · omega
        · injection e with e1 e2 e3
          injection e1 with e1
          subst e1 e3
          exact .inr ⟨a, cap, rfl, by omega, fun i hi => hx i (by omega)⟩)
      go_enter Try.func53, Try.ntmps53
      go_wp2_with fail
      go_ret
      exact ⟨_, 2000, rfl, open_made H2.out (Nat.le_refl _), HB.out _⟩
    · go_enter Try.func53, Try.ntmps53
      go_wp2_with fail
      go_ret
      exact ⟨_, n, rfl, open_made H.out (by omega), HB.out _⟩

theorem fpos_of {p : ByteArray} (h : (IParse p).isSome = true) : 1 ≤ (ats (Flat p)).length := by
  obtain ⟨⟨i, b0, b1⟩, hi⟩ := Option.isSome_iff_exists.1 h
  rw [ats_length, flat_some hi]
  simp [T.flat]
def PlacePost (c : Nat) (v : Value) (n : Nat) (xs : Nat → Int) (w : World) (e : Ending) (w' : World) : Prop :=
  ∃ (p : ByteArray) (a : Int) (q' : Nat), p.size ≤ 2010 ∧ e = .returned (.tuple #[.string p, .int .i64 a]) ∧ DRd w' c v n xs q' ∧ w.grownBy w' (some c)
set_option maxHeartbeats 1000000 in
set_option maxRecDepth 100000 in
theorem place_any (w : World) (c : Nat) (v : Value) (n : Nat) (xs : Nat → Int) (q : Nat) (hd : DRd w c v n xs q) (hq : q ≤ 80000) :
    Calls Try.prog 52 #[.pointer (some ⟨c, 0, none⟩)] w (PlacePost c v n xs w) := by
  have HD := Lib.hid hd
  clear hd
  go_enter Try.func52, Try.ntmps52
  go_wp2_with fail
  refine (text_any w c v n xs q HD.out (by omega)).mono ?_
  rintro e w1 ⟨p, q1, -, hs2, hq1, hq1', rfl, hd1, hg1⟩
  have HD1 := Lib.hid hd1
  have HG1 := Lib.hid hg1
  clear hd1 hg1
  go_wp2_with fail
  refine (sstepsof_any p w1 (by omega)).mono ?_
  rintro e w2 ⟨A, cp, rfl, hb2, ho2⟩
  have HD2 := Lib.hid (HD1.out.below hb2)
  have HG2 := Lib.hid (World.grownBy.trans HG1.out (grown_of hb2 (some c)))
  have hcl := HD1.out.lt
  have HO2 := Lib.hid ho2.bound
  have hl80 : (ats (Flat p)).length ≤ 80 := by rw [ats_length]; exact flat_le p
  have HF := Lib.hid (fpos_of (p := p))
  clear hb2 ho2
  generalize ats (Flat p) = l at *
  generalize (IParse p).isSome = b at *
  have HN := Lib.hid (fun (W : World) (q2 : Nat) (hd : DRd W c v n xs q2) (hq : q2 ≤ 90000) =>
    num_any (W.alloc (.cells #[.int .i64 0, .int .i64 1, .int .i64 3, .int .i64 (-1), .int .i64 80, .int .i64 9223372036854775807] 3)) c v n xs q2 W.heap.size 6 6 (fun i => [0, 1, 3, -1, 80, 9223372036854775807].getD i 0) (hd.grown (World.grownBy_alloc W _ none) (by simp)) (by omega) (by omega) (by omega) (ISl_alloc W [0, 1, 3, -1, 80, 9223372036854775807] 3) (Nat.ne_of_gt hd.lt))
  cases b
  · go_wp2_with fail
    refine (HN.out w2 q1 HD2.out (by omega)).mono ?_
    rintro e w3 ⟨j, hj, rfl, hd3, hg3⟩
    have HD3 := Lib.hid hd3
    have HG3 := Lib.hid (World.grownBy.trans HG2.out (World.grownBy.trans (World.grownBy_alloc w2 _ (some c)) hg3))
    clear hd3 hg3
    generalize [0, 1, 3, -1, 80, 9223372036854775807].getD j (0 : Int) = at_ at *
    go_wp2_with fail
    go_ret2
    exact ⟨p, at_, _, hs2, rfl, HD3.out, HG3.out⟩
  · have hl1 : 1 ≤ l.length := HF.out rfl
    go_wp2_with fail
    refine (pick_any w2 c v n xs q1 6 HD2.out (by omega) (by omega) (by omega)).mono ?_
    rintro e w3 ⟨j, hj, rfl, hd3, hg3⟩
    have HD3 := Lib.hid hd3
    have HG3 := Lib.hid (World.grownBy.trans HG2.out hg3)
    have HO3 := Lib.hid (HO2.out.keep (fun j hj hl => hg3.block j hl (fun e => by have := Option.some.inj e; omega)))
    have hsz3 := hg3.size
    clear hd3 hg3
    by_cases hz : 0 < j
    · have hz' : decide ((0 : Int) < (j : Int)) = true := by simp; omega
      obtain ⟨g, rfl, -⟩ := HO3.out.at (ints_length l).symm hl1
      have hgc : some g ≠ some c := fun e => by have := Option.some.inj e; have := (HO3.out.let_ g rfl).1; omega
      have HC := Lib.hid (fun (W W' : World) (e : W.heap = w3.heap) (hg : W.grownBy W' (some c)) (k : Nat) (hk : k < l.length) => show W'.cell? ⟨g, k, none⟩ = some (.int .i64 (l[k]'hk)) by
        obtain ⟨g', e', hc⟩ := HO3.out.at (ints_length l).symm hk
        injection e' with e'
        injection e' with e'
        subst e'
        rw [show (ints l)[k]? = some (.int .i64 (l[k]'hk)) by simp [ints, hk]] at hc
        have hlt := World.block_lt_of_cell? _ _ hc
        rw [cell_of_block (w := w3) (w' := W') ((hg.block g (by rw [e]; exact hlt) hgc).trans (by rw [e]))]
        exact hc)
      clear hgc
      go_wp2_with fail
      go_region_with (
        (go_at_call 61
         refine Calls.mono (pick_any _ c v n xs (q1 + 1) l.length (HD3.out.heap (by rfl)) (by omega) (by omega) (by omega)) ?_
         rintro e w4 ⟨k, hk, rfl, hd4, hg4⟩
         have hk' : k < l.length := by omega
         have hcell := HC.out _ w4 (by rfl) hg4 k hk'
         have HD4 := Lib.hid hd4
         have HG4 := Lib.hid (World.grownBy.trans (grown_heap HG3.out (by rfl) (by rfl) (by rfl) (by rfl)) hg4)
         clear hd4 hg4 hk))
      all_goals
        go_wp2_with fail
        go_ret2
        exact ⟨p, _, _, hs2, rfl, HD4.out.heap (by rfl), grown_heap HG4.out (by rfl) (by rfl) (by rfl) (by rfl)⟩
    · have hz' : decide ((0 : Int) < (j : Int)) = false := by simp; omega
      go_wp2_with fail
      refine (HN.out w3 (q1 + 1) HD3.out (by omega)).mono ?_
      rintro e w4 ⟨j4, hj4, rfl, hd4, hg4⟩
      have HD4 := Lib.hid hd4
      have HG4 := Lib.hid (World.grownBy.trans HG3.out (World.grownBy.trans (World.grownBy_alloc w3 _ (some c)) hg4))
      clear hd4 hg4
      generalize [0, 1, 3, -1, 80, 9223372036854775807].getD j4 (0 : Int) = at_ at *
      go_wp2_with fail
      go_ret2
      exact ⟨p, at_, _, hs2, rfl, HD4.out, HG4.out⟩

theorem below_new {w w1 w2 : World} (h : Below w.heap.size w w1) (hg : w1.grownBy w2 (some w.heap.size)) : Below w.heap.size w w2 :=
  ⟨hg.os.trans h.os, hg.tape.trans h.tape, hg.output.trans h.output, Nat.le_trans h.size hg.size, fun j hj => (hg.block j (Nat.lt_of_lt_of_le hj h.size) (fun e => by have := Option.some.inj e; omega)).trans (h.block j hj)⟩
set_option maxHeartbeats 1000000 in
set_option maxRecDepth 100000 in
theorem drawat_any (w : World) (v : Value) (n : Nat) (xs : Nat → Int) (hn : n ≤ 1048576) (h : BArg w v n xs) :
    Calls Try.prog 38 #[v] w fun e w' => ∃ (p : ByteArray) (a : Int), p.size ≤ 2010 ∧ e = .returned (.tuple #[.string p, .int .i64 a]) ∧ Below w.heap.size w w' := by
  have HO := Lib.hid (open_any w v n xs hn h)
  clear h
  go_enter Try.func38, Try.ntmps38
  go_wp2_with fail
  refine HO.out.mono ?_
  rintro e w1 ⟨v1, n1, rfl, hd1, hb1⟩
  have HD1 := Lib.hid hd1
  have HB1 := Lib.hid hb1
  clear hd1 hb1
  go_wp2_with fail
  refine (place_any w1 w.heap.size v1 n1 xs 0 HD1.out (by omega)).mono ?_
  rintro e w2 ⟨p, a, q', hs, rfl, -, hg⟩
  have HB2 := Lib.hid (below_new HB1.out hg)
  clear hg
  go_wp2_with fail
  go_ret2
  exact ⟨p, a, hs, rfl, HB2.out⟩
set_option maxHeartbeats 1000000 in
set_option maxRecDepth 100000 in
theorem drawcount_any (w : World) (v : Value) (n : Nat) (xs : Nat → Int) (hn : n ≤ 1048576) (h : BArg w v n xs) :
    Calls Try.prog 39 #[v] w fun e w' => ∃ (p k : ByteArray), p.size ≤ 2010 ∧ e = .returned (.tuple #[.string p, .string k]) ∧ Below w.heap.size w w' := by
  have HO := Lib.hid (open_any w v n xs hn h)
  clear h
  go_enter Try.func39, Try.ntmps39
  go_wp2_with fail
  refine HO.out.mono ?_
  rintro e w1 ⟨v1, n1, rfl, hd1, hb1⟩
  have HD1 := Lib.hid hd1
  have HB1 := Lib.hid hb1
  clear hd1 hb1
  go_wp2_with fail
  refine (text_any w1 w.heap.size v1 n1 xs 0 HD1.out (by omega)).mono ?_
  rintro e w2 ⟨p, q', -, hs, -, hq, rfl, hd2, hg⟩
  have HD2 := Lib.hid hd2
  have HB2 := Lib.hid (below_new HB1.out hg)
  have hq2 : q' ≤ 2000 := by omega
  clear hg hd2 hq
  go_wp2_with fail
  have HN := Lib.hid (fun (l : List ByteArray) => fun (hl : l.length = 13) =>
    of_any (w2.alloc (.cells (l.map Value.string).toArray 9)) w.heap.size v1 n1 xs q' w2.heap.size 13 13 (fun i => l.getD i ⟨#[]⟩) (HD2.out.grown (World.grownBy_alloc w2 _ none) (by simp)) (by omega) (by omega) (by omega) (hl ▸ SSl_alloc w2 l 9) (Nat.ne_of_gt HD2.out.lt))
  refine (HN.out [⟨#[43]⟩, ⟨#[45]⟩, ⟨#[46]⟩, ⟨#[126]⟩, ⟨#[61]⟩, ⟨#[94]⟩, ⟨#[33]⟩, ⟨#[63]⟩, ⟨#[42]⟩, ⟨#[123]⟩, ⟨#[]⟩, ⟨#[97]⟩, ⟨#[43, 97]⟩] rfl).mono ?_
  rintro e w3 ⟨j, hj, rfl, -, hg⟩
  have HB3 := Lib.hid (below_new HB2.out (World.grownBy.trans (World.grownBy_alloc w2 _ _) hg))
  clear hg HN
  generalize List.getD _ j _ = k at *
  go_wp2_with fail
  go_ret2
  exact ⟨p, k, hs, rfl, HB3.out⟩
end Go.Proofs.Ytopgkaekbbaglaa
