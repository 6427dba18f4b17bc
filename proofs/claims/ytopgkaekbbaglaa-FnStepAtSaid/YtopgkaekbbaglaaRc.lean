/- The drawing source: a body is drawn. -/
import Derived.Test.YtopgkaekbbaglaaRb
namespace Go.Proofs.Ytopgkaekbbaglaa
set_option linter.unusedVariables false
set_option linter.unusedSimpArgs false
open Go.RowKit Pl

/-- how long a drawn step is at most -/
def stepSz : Nat → Nat
  | 0 => 3
  | d + 1 => 5 + 8 * stepSz d
/-- how many numbers a drawn step picks at most -/
def stepPk : Nat → Nat
  | 0 => 5
  | d + 1 => 7 + 8 * stepPk d
theorem stepSz_pos (d : Nat) : 3 ≤ stepSz d := by cases d <;> simp only [stepSz] <;> omega
theorem stepPk_pos (d : Nat) : 5 ≤ stepPk d := by cases d <;> simp only [stepPk] <;> omega
theorem stepSz_le {d : Nat} (h : d ≤ 2) : stepSz d ≤ 237 := by
  rcases (show d = 0 ∨ d = 1 ∨ d = 2 by omega) with rfl | rfl | rfl <;> decide
theorem stepPk_le {d : Nat} (h : d ≤ 2) : stepPk d ≤ 383 := by
  rcases (show d = 0 ∨ d = 1 ∨ d = 2 by omega) with rfl | rfl | rfl <;> decide

theorem ISl_alloc (w : World) (l : List Int) (t : Nat) : ISl (w.alloc (.cells (l.map (Value.int .i64)).toArray t)) w.heap.size l.length (fun i => l.getD i 0) := by
  have h : (w.alloc (.cells (l.map (Value.int .i64)).toArray t)).heap[w.heap.size]? = some (.cells (l.map (Value.int .i64)).toArray t) := by
    show (w.heap.push _)[w.heap.size]? = _
    simp
  refine ⟨(Array.getElem?_eq_some_iff.1 h).1, fun i hi => ?_⟩
  simp only [World.cell?, h]
  simp [hi, List.getD]
theorem SSl_alloc (w : World) (l : List ByteArray) (t : Nat) : SSl (w.alloc (.cells (l.map Value.string).toArray t)) w.heap.size l.length (fun i => l.getD i ⟨#[]⟩) := by
  have h : (w.alloc (.cells (l.map Value.string).toArray t)).heap[w.heap.size]? = some (.cells (l.map Value.string).toArray t) := by
    show (w.heap.push _)[w.heap.size]? = _
    simp
  refine ⟨(Array.getElem?_eq_some_iff.1 h).1, fun i hi => ?_⟩
  simp only [World.cell?, h]
  simp [hi, List.getD]
theorem lit0_ : (ByteArray.mk #[]).size = 0 := rfl
theorem lit1_ (a : UInt8) : (ByteArray.mk #[a]).size = 1 := rfl
theorem lit2_ (a b : UInt8) : (ByteArray.mk #[a, b]).size = 2 := rfl
theorem one_sub (s : ByteArray) (k : Nat) (h : k < s.size) : (s.extract k (k + 1)).size = 1 := by rw [ByteArray.size_extract]; omega

/-- a body of so many brackets within each other is drawn -/
def BodyAt (d : Nat) : Prop := ∀ (w : World) (c : Nat) (v : Value) (n : Nat) (xs : Nat → Int) (q : Nat) (sc : ByteArray), DRd w c v n xs q → q + 1 + 4 * stepPk d ≤ 500000 → 1 ≤ sc.size → sc.size ≤ 4 →
    Calls Try.prog 74 #[.pointer (some ⟨c, 0, none⟩), .string sc, .int .i64 d] w fun e w' => ∃ (s : ByteArray) (q' : Nat), s.size ≤ 4 * stepSz d ∧ q ≤ q' ∧ q' ≤ q + 1 + 4 * stepPk d ∧ e = .returned (.string s) ∧ DRd w' c v n xs q' ∧ w.grownBy w' (some c)

def BodyRel (d m q c : Nat) (v : Value) (n : Nat) (xs : Nat → Int) (w : World) (o i : Value) (wr : World) : Prop :=
  ∃ (k q' : Nat) (s : ByteArray), k ≤ m ∧ i = .int .i64 k ∧ o = .string s ∧ s.size ≤ k * stepSz d ∧ q ≤ q' ∧ q' ≤ q + k * stepPk d ∧ DRd wr c v n xs q' ∧ w.grownBy wr (some c)
theorem BodyRel.next {d m q c : Nat} {v : Value} {n : Nat} {xs : Nat → Int} {w : World} {wr wr' : World} {k q' q'' : Nat} {s s' : ByteArray} (hk : k < m) (hs : s.size ≤ k * stepSz d) (hq0 : q ≤ q') (hq : q' ≤ q + k * stepPk d)
    (hg : w.grownBy wr (some c)) (hs' : s'.size ≤ s.size + stepSz d) (h1 : q' ≤ q'') (h2 : q'' ≤ q' + stepPk d) (hd : DRd wr' c v n xs q'') (hg' : wr.grownBy wr' (some c)) :
    BodyRel d m q c v n xs w (.string s') (.int .i64 (k + 1 : Nat)) wr' :=
  ⟨k + 1, q'', s', hk, rfl, rfl, by rw [Nat.succ_mul]; omega, by omega, by rw [Nat.succ_mul]; omega, hd, hg.trans hg'⟩
theorem mul_le4 {k a b : Nat} (hk : k ≤ 4) (h : a ≤ b) : k * a ≤ 4 * b := Nat.mul_le_mul hk h

set_option maxHeartbeats 4000000 in
set_option maxRecDepth 100000 in
theorem body_step (d : Nat) (hd2 : d ≤ 2) (ih : ∀ d', d = d' + 1 → BodyAt d') : BodyAt d := by
  intro w c v n xs q sc hd hq h1 h4
  have HD := Lib.hid hd
  have HIH := Lib.hid ih
  clear hd ih
  go_enter Try.func74, Try.ntmps74
  go_wp2_with fail
  have hA := World.grownBy_alloc w (.cells #[.int .i64 2, .int .i64 3, .int .i64 1, .int .i64 4, .int .i64 0] 3) (some c)
  have hAD := HD.out.grown (World.grownBy_alloc w (.cells #[.int .i64 2, .int .i64 3, .int .i64 1, .int .i64 4, .int .i64 0] 3) none) (by simp)
  refine (num_any _ c v n xs q w.heap.size 5 5 (fun i => [2, 3, 1, 4, 0].getD i 0) hAD (by omega) (by omega) (by omega) (ISl_alloc w [2, 3, 1, 4, 0] 3) (Nat.ne_of_gt HD.out.lt)).mono ?_
  rintro e w1 ⟨j, hj, rfl, hd1, hg1⟩
  have hm : ∃ m : Nat, m ≤ 4 ∧ [2, 3, 1, 4, 0].getD j (0 : Int) = m := by
    rcases (show j = 0 ∨ j = 1 ∨ j = 2 ∨ j = 3 ∨ j = 4 by omega) with rfl | rfl | rfl | rfl | rfl <;> exact ⟨_, by decide, rfl⟩
  obtain ⟨m, hm, hjm⟩ := hm
  rw [hjm]
  have HD1 := Lib.hid hd1
  have HG1 := Lib.hid (World.grownBy.trans hA hg1)
  clear hjm hj hd1 hg1 hA hAD
  go_wp2_with fail
  go_loopw [7, 16] (fun o i wr => BodyRel d m (q + 1) c v n xs w o i wr) (fun _ i _ => m - (intOf i).toNat)
  case atStart => exact ⟨0, q + 1, ⟨#[]⟩, by omega, rfl, rfl, Nat.zero_le _, by omega, by omega, HD1.out, HG1.out⟩
  case round =>
    obtain ⟨k, q', s, hkm, rfl, rfl, hs, hq0, hq', hdr, hgr⟩ := hrel
    have hP := mul_le4 (Nat.le_trans hkm hm) (stepPk_le hd2)
    have hS := mul_le4 (Nat.le_trans hkm hm) (stepSz_le hd2)
    have hsz : s.size ≤ 948 := by omega
    have HR := Lib.hid hdr
    by_cases hlt : k < m
    · have hP1 := Nat.mul_le_mul_right (stepPk d) (show k + 1 ≤ 4 by omega)
      rw [Nat.succ_mul] at hP1
      have hqz : q' + stepPk d ≤ 500000 := by omega
      have h5p := stepPk_pos d
      have FIN := Lib.hid (fun (q'' : Nat) (s' : ByteArray) (wr' : World) => BodyRel.next (v := v) (n := n) (xs := xs) (wr' := wr') (s' := s') (q'' := q'') hlt hs hq0 hq' hgr)
      have hlm : decide ((k : Int) < m) = true := by simp; omega
      clear hdr hgr hs hq0 hq' hP hS hP1
      go_wp2_with fail
      refine (pick_any wr c v n xs q' sc.size HR.out (by omega) (by omega) (by omega)).mono ?_
      rintro e w2 ⟨j, hj, rfl, hd2', hg2⟩
      have hj' : j < sc.size := by omega
      have HV := Lib.hid (one_sub sc j hj')
      have HD2 := Lib.hid hd2'
      have HG2 := Lib.hid hg2
      clear hd2' hg2
      go_wp2_with fail
      refine (pick_any w2 c v n xs (q' + 1) 11 HD2.out (by omega) (by omega) (by omega)).mono ?_
      rintro e w3 ⟨j2, hj2, rfl, hd3, hg3⟩
      have HD3 := Lib.hid hd3
      have HG3 := Lib.hid (World.grownBy.trans HG2.out hg3)
      have hj2' : j2 < 11 := by omega
      clear hd3 hg3 HG2 HD2 hj2
      rcases (show j2 = 0 ∨ j2 = 1 ∨ j2 = 2 ∨ j2 = 3 ∨ j2 = 4 ∨ j2 = 5 ∨ j2 = 6 ∨ j2 = 7 ∨ j2 = 8 ∨ j2 = 9 ∨ j2 = 10 by omega) with rfl | rfl | rfl | rfl | rfl | rfl | rfl | rfl | rfl | rfl | rfl
      · go_wp2_with fail
        have p3_ := stepSz_pos d
        have p5_ := stepPk_pos d
        have e_ := HV.out
        refine ⟨FIN.out (q' + 2) _ _ (by first | omega | (simp only [ByteArray.size_append, lit1_, lit2_]; omega)) (by omega) (by omega) HD3.out HG3.out, by simp [intOf]; omega⟩
      · go_wp2_with fail
        have p3_ := stepSz_pos d
        have p5_ := stepPk_pos d
        have e_ := HV.out
        refine ⟨FIN.out (q' + 2) _ _ (by first | omega | (simp only [ByteArray.size_append, lit1_, lit2_]; omega)) (by omega) (by omega) HD3.out HG3.out, by simp [intOf]; omega⟩
      · go_wp2_with fail
        have p3_ := stepSz_pos d
        have p5_ := stepPk_pos d
        have e_ := HV.out
        refine ⟨FIN.out (q' + 2) _ _ (by first | omega | (simp only [ByteArray.size_append, lit1_, lit2_]; omega)) (by omega) (by omega) HD3.out HG3.out, by simp [intOf]; omega⟩
      · go_wp2_with fail
        have hB := World.grownBy_alloc w3 (.cells #[.string ⟨#[45]⟩, .string ⟨#[126]⟩] 9) (some c)
        have hBD := HD3.out.grown (World.grownBy_alloc w3 (.cells #[.string ⟨#[45]⟩, .string ⟨#[126]⟩] 9) none) (by simp)
        refine (of_any _ c v n xs (q' + 2) w3.heap.size 2 2 (fun i => [ByteArray.mk #[45], ByteArray.mk #[126]].getD i ⟨#[]⟩) hBD (by omega) (by omega) (by omega) (SSl_alloc w3 [ByteArray.mk #[45], ByteArray.mk #[126]] 9) (Nat.ne_of_gt HD3.out.lt)).mono ?_
        rintro e w4 ⟨j4, hj4, rfl, hd4, hg4⟩
        have hL4 : ([ByteArray.mk #[45], ByteArray.mk #[126]].getD j4 ⟨#[]⟩).size ≤ 1 := by rcases (show j4 = 0 ∨ j4 = 1 by omega) with rfl | rfl <;> exact Nat.le_refl _
        have HD4 := Lib.hid hd4
        have HG4 := Lib.hid (World.grownBy.trans HG3.out (World.grownBy.trans hB hg4))
        clear hd4 hg4 hB hBD hj4
        generalize [ByteArray.mk #[45], ByteArray.mk #[126]].getD j4 ⟨#[]⟩ = t4 at *
        go_wp2_with fail
        have p3_ := stepSz_pos d
        have p5_ := stepPk_pos d
        have e_ := HV.out
        refine ⟨FIN.out (q' + 3) _ _ (by first | omega | (simp only [ByteArray.size_append, lit1_, lit2_]; omega)) (by omega) (by omega) HD4.out HG4.out, by simp [intOf]; omega⟩
      · go_wp2_with fail
        have p3_ := stepSz_pos d
        have p5_ := stepPk_pos d
        have e_ := HV.out
        refine ⟨FIN.out (q' + 2) _ _ (by first | omega | (simp only [ByteArray.size_append, lit1_, lit2_]; omega)) (by omega) (by omega) HD3.out HG3.out, by simp [intOf]; omega⟩
      · go_wp2_with fail
        have p3_ := stepSz_pos d
        have p5_ := stepPk_pos d
        have e_ := HV.out
        refine ⟨FIN.out (q' + 2) _ _ (by first | omega | (simp only [ByteArray.size_append, lit1_, lit2_]; omega)) (by omega) (by omega) HD3.out HG3.out, by simp [intOf]; omega⟩
      · go_wp2_with fail
        refine (pick_any w3 c v n xs (q' + 2) sc.size HD3.out (by omega) (by omega) (by omega)).mono ?_
        rintro e w4 ⟨j4, hj4, rfl, hd4, hg4⟩
        have hj4' : j4 < sc.size := by omega
        have HD4 := Lib.hid hd4
        have HG4 := Lib.hid (World.grownBy.trans HG3.out hg4)
        clear hd4 hg4 hj4
        have HW := Lib.hid (show (sc.extract j (j + 1)).size = 1 ∧ ((sc.extract j4 sc.size).extract 0 1).size ≤ 1 from ⟨HV.out, by rw [ByteArray.size_extract]; omega⟩)
        go_wp2_with fail
        · have p3_ := stepSz_pos d
          have p5_ := stepPk_pos d
          have e_ := HW.out
          refine ⟨FIN.out (q' + 3) _ _ (by first | omega | (simp only [ByteArray.size_append, lit1_, lit2_]; omega)) (by omega) (by omega) HD4.out HG4.out, by simp [intOf]; omega⟩
        · have p3_ := stepSz_pos d
          have p5_ := stepPk_pos d
          have e_ := HW.out
          refine ⟨FIN.out (q' + 3) _ _ (by first | omega | (simp only [ByteArray.size_append, lit1_, lit2_]; omega)) (by omega) (by omega) HD4.out HG4.out, by simp [intOf]; omega⟩
      · by_cases hz : d ≤ 0
        · go_wp2_with fail
          have p3_ := stepSz_pos d
          have p5_ := stepPk_pos d
          have e_ := HV.out
          refine ⟨FIN.out (q' + 2) _ _ (by first | omega | (simp only [ByteArray.size_append, lit1_, lit2_]; omega)) (by omega) (by omega) HD3.out HG3.out, by simp [intOf]; omega⟩
        · obtain ⟨d', hd'⟩ : ∃ d', d = d' + 1 := ⟨d - 1, by omega⟩
          have HE := Lib.hid hd'
          have hd'2 : d' ≤ 1 := by omega
          have HPK : stepPk d = 7 + 8 * stepPk d' := by rw [hd']; rfl
          have HSZ := Lib.hid (show stepSz d = 5 + 8 * stepSz d' by rw [hd']; rfl)
          have hsz' := stepSz_le (show d' ≤ 2 by omega)
          have HIH' := Lib.hid (HIH.out d' hd')
          have hde := Lib.hid (show ((d : Int) - 1) = ((d' : Nat) : Int) by omega)
          clear hd'
          go_wp2_with fail
          rw [hde.out]
          refine (HIH'.out w3 c v n xs (q' + 2) sc HD3.out (by omega) h1 h4).mono ?_
          rintro e w4 ⟨t4, q4, ht4, hq4, hq4', rfl, hd4, hg4⟩
          have HD4 := Lib.hid hd4
          have HG4 := Lib.hid (World.grownBy.trans HG3.out hg4)
          clear hd4 hg4
          go_wp2_with fail
          rw [hde.out]
          refine (HIH'.out w4 c v n xs q4 sc HD4.out (by omega) h1 h4).mono ?_
          rintro e w5 ⟨t5, q5, ht5, hq5, hq5', rfl, hd5, hg5⟩
          have HD5 := Lib.hid hd5
          have HG5 := Lib.hid (World.grownBy.trans HG4.out hg5)
          clear hd5 hg5
          go_wp2_with fail
          have p3_ := stepSz_pos d
          have p5_ := stepPk_pos d
          have e_ := HSZ.out
          refine ⟨FIN.out q5 _ _ (by first | omega | (simp only [ByteArray.size_append, lit1_, lit2_]; omega)) (by omega) (by omega) HD5.out HG5.out, by simp [intOf]; omega⟩
      · by_cases hz : d ≤ 0
        · go_wp2_with fail
          have p3_ := stepSz_pos d
          have p5_ := stepPk_pos d
          have e_ := HV.out
          refine ⟨FIN.out (q' + 2) _ _ (by first | omega | (simp only [ByteArray.size_append, lit1_, lit2_]; omega)) (by omega) (by omega) HD3.out HG3.out, by simp [intOf]; omega⟩
        · obtain ⟨d', hd'⟩ : ∃ d', d = d' + 1 := ⟨d - 1, by omega⟩
          have HPK : stepPk d = 7 + 8 * stepPk d' := by rw [hd']; rfl
          have HSZ := Lib.hid (show stepSz d = 5 + 8 * stepSz d' by rw [hd']; rfl)
          have hsz' := stepSz_le (show d' ≤ 2 by omega)
          have HIH' := Lib.hid (HIH.out d' hd')
          have hde := Lib.hid (show ((d : Int) - 1) = ((d' : Nat) : Int) by omega)
          clear hd'
          go_wp2_with fail
          rw [hde.out]
          refine (HIH'.out w3 c v n xs (q' + 2) sc HD3.out (by omega) h1 h4).mono ?_
          rintro e w4 ⟨t4, q4, ht4, hq4, hq4', rfl, hd4, hg4⟩
          have HD4 := Lib.hid hd4
          have HG4 := Lib.hid (World.grownBy.trans HG3.out hg4)
          clear hd4 hg4
          go_wp2_with fail
          have p3_ := stepSz_pos d
          have p5_ := stepPk_pos d
          have e_ := HSZ.out
          refine ⟨FIN.out q4 _ _ (by first | omega | (simp only [ByteArray.size_append, lit1_, lit2_]; omega)) (by omega) (by omega) HD4.out HG4.out, by simp [intOf]; omega⟩
      · by_cases hz : d ≤ 0
        · go_wp2_with fail
          have p3_ := stepSz_pos d
          have p5_ := stepPk_pos d
          have e_ := HV.out
          refine ⟨FIN.out (q' + 2) _ _ (by first | omega | (simp only [ByteArray.size_append, lit1_, lit2_]; omega)) (by omega) (by omega) HD3.out HG3.out, by simp [intOf]; omega⟩
        · obtain ⟨d', hd'⟩ : ∃ d', d = d' + 1 := ⟨d - 1, by omega⟩
          have HPK : stepPk d = 7 + 8 * stepPk d' := by rw [hd']; rfl
          have HSZ := Lib.hid (show stepSz d = 5 + 8 * stepSz d' by rw [hd']; rfl)
          have hsz' := stepSz_le (show d' ≤ 2 by omega)
          have HIH' := Lib.hid (HIH.out d' hd')
          have hde := Lib.hid (show ((d : Int) - 1) = ((d' : Nat) : Int) by omega)
          clear hd'
          by_cases h44 : sc.size < 4
          · have hv6 : ((ByteArray.mk #[97, 98, 99, 100, 101, 102]).extract sc.size (sc.size + 1)).size ≤ 1 := by rw [ByteArray.size_extract]; omega
            have hs6 := Lib.hid (show 1 ≤ (sc ++ (ByteArray.mk #[97, 98, 99, 100, 101, 102]).extract sc.size (sc.size + 1)).size ∧ (sc ++ (ByteArray.mk #[97, 98, 99, 100, 101, 102]).extract sc.size (sc.size + 1)).size ≤ 4 by rw [ByteArray.size_append]; omega)
            go_wp2_with fail
            rw [hde.out]
            refine (HIH'.out w3 c v n xs (q' + 2) _ HD3.out (by omega) hs6.out.1 hs6.out.2).mono ?_
            rintro e w4 ⟨t4, q4, ht4, hq4, hq4', rfl, hd4, hg4⟩
            have HD4 := Lib.hid hd4
            have HG4 := Lib.hid (World.grownBy.trans HG3.out hg4)
            clear hd4 hg4
            go_wp2_with fail
            have p3_ := stepSz_pos d
            have p5_ := stepPk_pos d
            have e_ := HSZ.out
            refine ⟨FIN.out q4 _ _ (by first | omega | (simp only [ByteArray.size_append, lit1_, lit2_]; omega)) (by omega) (by omega) HD4.out HG4.out, by simp [intOf]; omega⟩
          · go_wp2_with fail
            have p3_ := stepSz_pos d
            have p5_ := stepPk_pos d
            have e_ := HV.out
            refine ⟨FIN.out (q' + 2) _ _ (by first | omega | (simp only [ByteArray.size_append, lit1_, lit2_]; omega)) (by omega) (by omega) HD3.out HG3.out, by simp [intOf]; omega⟩
      · go_wp2_with fail
        refine (pick_any w3 c v n xs (q' + 2) 4 HD3.out (by omega) (by omega) (by omega)).mono ?_
        rintro e w4 ⟨j4, hj4, rfl, hd4, hg4⟩
        have HD4 := Lib.hid hd4
        have HG4 := Lib.hid (World.grownBy.trans HG3.out hg4)
        clear hd4 hg4 hj4
        by_cases hz : j4 = 0
        · have hz' : ((j4 : Int) == 0) = true := by simp; omega
          clear hz
          go_wp2_with fail
          have hB := World.grownBy_alloc w4 (.cells #[.string ⟨#[94]⟩, .string ⟨#[33]⟩] 9) (some c)
          have hBD := HD4.out.grown (World.grownBy_alloc w4 (.cells #[.string ⟨#[94]⟩, .string ⟨#[33]⟩] 9) none) (by simp)
          refine (of_any _ c v n xs (q' + 3) w4.heap.size 2 2 (fun i => [ByteArray.mk #[94], ByteArray.mk #[33]].getD i ⟨#[]⟩) hBD (by omega) (by omega) (by omega) (SSl_alloc w4 [ByteArray.mk #[94], ByteArray.mk #[33]] 9) (Nat.ne_of_gt HD4.out.lt)).mono ?_
          rintro e w5 ⟨j5, hj5, rfl, hd5, hg5⟩
          have hL5 : ([ByteArray.mk #[94], ByteArray.mk #[33]].getD j5 ⟨#[]⟩).size ≤ 1 := by rcases (show j5 = 0 ∨ j5 = 1 by omega) with rfl | rfl <;> exact Nat.le_refl _
          have HD5 := Lib.hid hd5
          have HG5 := Lib.hid (World.grownBy.trans HG4.out (World.grownBy.trans hB hg5))
          clear hd5 hg5 hB hBD hj5
          generalize [ByteArray.mk #[94], ByteArray.mk #[33]].getD j5 ⟨#[]⟩ = t5 at *
          go_wp2_with fail
          have p3_ := stepSz_pos d
          have p5_ := stepPk_pos d
          have e_ := HV.out
          refine ⟨FIN.out (q' + 4) _ _ (by first | omega | (simp only [ByteArray.size_append, lit1_, lit2_]; omega)) (by omega) (by omega) HD5.out HG5.out, by simp [intOf]; omega⟩
        · have hz' : ((j4 : Int) == 0) = false := by simp; omega
          clear hz
          go_wp2_with fail
          have p3_ := stepSz_pos d
          have p5_ := stepPk_pos d
          have e_ := HV.out
          refine ⟨FIN.out (q' + 3) _ _ (by first | omega | (simp only [ByteArray.size_append, lit1_, lit2_]; omega)) (by omega) (by omega) HD4.out HG4.out, by simp [intOf]; omega⟩
    · have hS' := mul_le4 (Nat.le_trans hkm hm) (Nat.le_refl (stepSz d))
      have hP' := mul_le4 (Nat.le_trans hkm hm) (Nat.le_refl (stepPk d))
      have HE := Lib.hid (show s.size ≤ 4 * stepSz d ∧ q ≤ q' ∧ q' ≤ q + 1 + 4 * stepPk d ∧ DRd wr c v n xs q' ∧ w.grownBy wr (some c) from ⟨by omega, by omega, by omega, hdr, hgr⟩)
      clear hdr hgr hs hq0 hq' hP hS hS' hP'
      go_wp2_with fail
      go_ret
      exact ⟨s, q', HE.out.1, HE.out.2.1, HE.out.2.2.1, rfl, HE.out.2.2.2⟩
theorem draw_body : ∀ d, d ≤ 2 → BodyAt d
  | 0, h => body_step 0 h fun _ e => by omega
  | d + 1, h => body_step (d + 1) h fun d' e => by
    obtain rfl : d = d' := by omega
    exact draw_body d (by omega)
end Go.Proofs.Ytopgkaekbbaglaa
