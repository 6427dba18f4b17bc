/- The contract of the program's reader of one step: of one byte; two variables. -/
import Derived.Test.YtopgkaekbbaglaaIh
namespace Go.Proofs.Ytopgkaekbbaglaa
open Go.RowKit Pl

set_option maxHeartbeats 800000 in
set_option maxRecDepth 1000000 in
theorem step_zero (p : ByteArray) (n : Nat) (hp : p.size ≤ 80) (hm : many (bAt p n) = 0) (hbr : inBrackets (bAt p n) = 0) (hsc' : bAt p n ≠ 123) : StepC p n := by
  intro w b ar sc hr hn har hsc
  have hmm := @run_makeMap Try.prog
  have h0 := hr.c0
  have h1 := hr.c1
  go_enter Try.func57, Try.ntmps57
  go_wp2_with fail
  go_region
  have hblt := hr.lt
  generalize hW : (w.alloc (.cells #[.int .u8 (p[n]'hn).toNat, .int .i64 n, .int .i64 0, .string ⟨#[]⟩, .string ar, .slice none 0 0] 60)).drew = W1
  have hr1 : Rdr W1 b p n := by rw [← hW]; show Rdr (w.alloc _) b p n; exact hr.grown (r := none) (World.grownBy_alloc w _ none) (by simp)
  have hN1 : Nd W1 w.heap.size (p[n]'hn).toNat n 0 ⟨#[]⟩ ar (.slice none 0 0) := by rw [← hW]; show Nd (w.alloc _) _ _ _ _ _ _ _; exact heap_alloc_new w _
  have hG1 : w.grownBy W1 none := by
    rw [← hW]
    have z := World.grownBy_alloc w (.cells #[.int .u8 (p[n]'hn).toNat, .int .i64 n, .int .i64 0, .string ⟨#[]⟩, .string ar, .slice none 0 0] 60) none
    exact ⟨z.os, z.tape, z.output, z.size, z.block⟩
  rw [bAt_get hn] at hN1 ⊢
  generalize hgs : w.heap.size = gs at *
  have hne : gs ≠ b := by omega
  have hN2 := hN1.far (i := 1) hne (.int .i64 ((n : Int) + 1))
  have hr2 : Rdr (W1.setCell ⟨b, 1, none⟩ (.int .i64 ((n : Int) + 1))) b p (n + 1) := hr1.set
  have hG2 := World.grownBy.trans (hG1.but (some b)) (grown_set W1 b 1 (.int .i64 ((n : Int) + 1)))
  have g0 := hr1.c0
  have g1 := hr1.c1
  have gf := hr1.fz 1
  have HW := Lib.hid hW
  have HG := Lib.hid hgs
  have HM := Lib.hid hm
  have HB := Lib.hid hbr
  have HK := Lib.hid hsc'
  clear hW hgs h0 h1 hm hbr hsc'
  generalize hc : bAt p n = c at *
  go_wp2_with (first
    | (refine wpList_insert rfl _ _ _ rfl rfl (Made.start_ ?_) ?_ _ _ rfl rfl ?_ ?_ ?_; simp; decide; decide; decide; intro W4 M4; have q := hN2.grown M4.grown (by simp); have q0 := q.c0)
    | (refine wpList_insert rfl _ _ _ rfl rfl (by assumption) ?_ _ _ rfl rfl ?_ ?_ ?_; decide; decide; decide; intro W4 M4; have q := hN2.grown M4.grown (by simp); have q0 := q.c0)
    | (refine wpList_asked rfl _ _ rfl rfl (by assumption) _ _ rfl (byte_wf c) (many_key HM.out) ?_))
  have hr4 := hr2.grown M4.grown (by simp)
  have hG4 := World.grownBy.trans hG2 (M4.grown.but (some b))
  have HG4 := Lib.hid hG4
  have Q4 := Lib.hid q
  clear hG4 q hG1 hG2 hN1 hN2 hr1 hr2 g0 g1 gf
  have hr7 := hr4
  have Q7 := Q4
  have HG7 := HG4
  have hk : ((c.toNat : Int) == 123) = false := by
    rw [beq_eq_false_iff_ne]
    intro h
    exact HK.out ((byte_eq c 123).1 h)
  clear q0
  refine wp_loop_rounds 1 ?_
  rw [rounds_succ]
  go_wp2_with (first
    | (refine wpList_insert rfl _ _ _ rfl rfl (Made.start_ ?_) ?_ _ _ rfl rfl ?_ ?_ ?_; simp; decide; decide; decide; intro W8 M8; have q := Q7.out.grown M8.grown (by simp); have q0 := q.c0; have qf := q.fz 2; have q2 := q.c2; have z := (hr7.grown M8.grown (by simp)).c1)
    | (refine wpList_insert rfl _ _ _ rfl rfl (by assumption) ?_ _ _ rfl rfl ?_ ?_ ?_; decide; decide; decide; intro W8 M8; have q := Q7.out.grown M8.grown (by simp); have q0 := q.c0; have qf := q.fz 2; have q2 := q.c2; have z := (hr7.grown M8.grown (by simp)).c1)
    | (refine wpList_asked rfl _ _ rfl rfl (by assumption) _ _ rfl (byte_wf c) (brackets_key HB.out) ?_))
  refine wp_loop_rounds 1 ?_
  rw [rounds_succ]
  go_wp2_with fail
  go_ret2
  have hq := q.en_ (((n + 1 : Nat) : Int))
  have hr9 := (hr7.grown M8.grown (by simp)).far (i := 2) hne.symm (.int .i64 (((n + 1 : Nat) : Int)))
  have hgs := HG.out
  refine ⟨?_, .inr ⟨⟨c, n, n + 1, ByteArray.empty, ar, 0⟩, .nil, .nil, n + 1, gs, ?_, by omega, rfl, hr9, ?_⟩⟩
  · have b := HG7.out
    have c' := World.grownBy.trans b (M8.grown.but _)
    exact c'.andThen (grown_set W8 gs 2 _) (fun j hj => by cases hj; omega)
  · have h1 := plain_some (p := p) (ar := ar) (n := n) (sc := sc) hn (vs := ByteArray.empty) (m := n + 1) (by rw [hc]; exact HB.out) (by rw [hc]; exact HK.out) (by rw [hc, HM.out, readVars])
    rw [h1, hc]
  · exact ⟨gs, .slice none 0 0, .slice none 0 0, .slice none 0 0, [], [], [], rfl, by omega, hq, rfl, Own.nil _ _ _, rfl, Own.nil _ _ _, Nat.zero_le _, Own.nil _ _ _, rfl⟩

set_option maxHeartbeats 800000 in
set_option maxRecDepth 1000000 in
theorem step_two (p : ByteArray) (n : Nat) (hp : p.size ≤ 80) (hm : many (bAt p n) = 2) (hbr : inBrackets (bAt p n) = 0) (hsc' : bAt p n ≠ 123) : StepC p n := by
  intro w b ar sc hr hn har hsc
  have hmm := @run_makeMap Try.prog
  have h0 := hr.c0
  have h1 := hr.c1
  go_enter Try.func57, Try.ntmps57
  go_wp2_with fail
  go_region
  have hblt := hr.lt
  generalize hW : (w.alloc (.cells #[.int .u8 (p[n]'hn).toNat, .int .i64 n, .int .i64 0, .string ⟨#[]⟩, .string ar, .slice none 0 0] 60)).drew = W1
  have hr1 : Rdr W1 b p n := by rw [← hW]; show Rdr (w.alloc _) b p n; exact hr.grown (r := none) (World.grownBy_alloc w _ none) (by simp)
  have hN1 : Nd W1 w.heap.size (p[n]'hn).toNat n 0 ⟨#[]⟩ ar (.slice none 0 0) := by rw [← hW]; show Nd (w.alloc _) _ _ _ _ _ _ _; exact heap_alloc_new w _
  have hG1 : w.grownBy W1 none := by
    rw [← hW]
    have z := World.grownBy_alloc w (.cells #[.int .u8 (p[n]'hn).toNat, .int .i64 n, .int .i64 0, .string ⟨#[]⟩, .string ar, .slice none 0 0] 60) none
    exact ⟨z.os, z.tape, z.output, z.size, z.block⟩
  rw [bAt_get hn] at hN1 ⊢
  generalize hgs : w.heap.size = gs at *
  have hne : gs ≠ b := by omega
  have hN2 := hN1.far (i := 1) hne (.int .i64 ((n : Int) + 1))
  have hr2 : Rdr (W1.setCell ⟨b, 1, none⟩ (.int .i64 ((n : Int) + 1))) b p (n + 1) := hr1.set
  have hG2 := World.grownBy.trans (hG1.but (some b)) (grown_set W1 b 1 (.int .i64 ((n : Int) + 1)))
  have g0 := hr1.c0
  have g1 := hr1.c1
  have gf := hr1.fz 1
  have HW := Lib.hid hW
  have HG := Lib.hid hgs
  have HM := Lib.hid hm
  have HB := Lib.hid hbr
  have HK := Lib.hid hsc'
  clear hW hgs h0 h1 hm hbr hsc'
  generalize hc : bAt p n = c at *
  go_wp2_with (first
    | (refine wpList_insert rfl _ _ _ rfl rfl (Made.start_ ?_) ?_ _ _ rfl rfl ?_ ?_ ?_; simp; decide; decide; decide; intro W4 M4; have q := hN2.grown M4.grown (by simp); have q0 := q.c0)
    | (refine wpList_insert rfl _ _ _ rfl rfl (by assumption) ?_ _ _ rfl rfl ?_ ?_ ?_; decide; decide; decide; intro W4 M4; have q := hN2.grown M4.grown (by simp); have q0 := q.c0)
    | (refine wpList_asked rfl _ _ rfl rfl (by assumption) _ _ rfl (byte_wf c) (many_key HM.out) ?_))
  have hr4 := hr2.grown M4.grown (by simp)
  have hG4 := World.grownBy.trans hG2 (M4.grown.but (some b))
  have HG4 := Lib.hid hG4
  have Q4 := Lib.hid q
  clear hG4 q hG1 hG2 hN1 hN2 hr1 hr2 g0 g1 gf
  refine wp_loop_rounds 3 ?_
  rw [rounds_succ]
  go_wp2_with fail
  refine (letter_any _ b (n + 1) p hr4 (by omega)).mono ?_
  rintro e w5 ⟨rfl, hr5, hg5⟩
  have q5 := Q4.out.grown hg5 (by simp; exact hne)
  have q53 := q5.c3
  have q5f := q5.fz 3
  have HG5 := Lib.hid (World.grownBy.trans HG4.out hg5)
  clear hg5
  by_cases hl : isLet p (n + 1) = true
  · rw [hl] at hr5 ⊢
    rw [if_pos rfl] at hr5
    simp only [if_true]
    have hl1 := isLet_lt hl
    have HL := Lib.hid hl
    have Q5 := Lib.hid q5
    clear hl q5
    have hv1 : ((sub1 p (n + 1)).toList.isEmpty) = false := by rw [Lib.toList_data, sub1_data hl1]; rfl
    go_wp2_with fail
    refine (contains_any ar (sub1 p (n + 1)) _ (sub1_size hl1)).mono ?_
    rintro e w6 ⟨rfl, rfl⟩
    rw [show bAt (sub1 p (n + 1)) 0 = bAt p (n + 1) from bAt_sub1 hl1]
    by_cases hh : has ar (bAt p (n + 1)) = true
    · rw [hh]
      have HH := Lib.hid hh
      clear hh
      go_wp2_with fail
      refine (contains_any ⟨#[]⟩ (sub1 p (n + 1)) _ (sub1_size hl1)).mono ?_
      rintro e w6 ⟨rfl, rfl⟩
      rw [show has (⟨#[]⟩ : ByteArray) (bAt (sub1 p (n + 1)) 0) = false from has_empty _]
      have hz := sub1_size hl1
      go_wp2_with fail
      generalize hW7 : w5.setCell ⟨gs, 3, none⟩ _ = W6
      have q6 : Nd W6 gs c.toNat n 0 (sub1 p (n + 1)) ar (.slice none 0 0) := by
        rw [← hW7, show (⟨#[]⟩ : ByteArray) ++ sub1 p (n + 1) = sub1 p (n + 1) from ba_empty_append _]
        exact Q5.out.vars _
      have hr6 : Rdr W6 b p (n + 2) := by rw [← hW7]; exact hr5.far hne.symm _
      have hG6 : w5.grownBy W6 (some gs) := by rw [← hW7]; exact grown_set _ _ _ _
      have Q6 := Lib.hid q6
      have HG6 := Lib.hid (HG5.out.andThen hG6 (fun j hj => by cases hj; exact .inl (by have := HG.out; omega)))
      clear hW7 q6 hG6 hz hv1 q53 q5f q0 Q5 HG5
      rw [rounds_succ]
      go_wp2_with fail
      refine (letter_any _ b (n + 2) p hr6 (by omega)).mono ?_
      rintro e w7 ⟨rfl, hr7', hg7⟩
      have q7 := Q6.out.grown hg7 (by simp; exact hne)
      have q73 := q7.c3
      have q7f := q7.fz 3
      have HG8 := Lib.hid (World.grownBy.trans HG6.out hg7)
      clear hg7
      by_cases hl' : isLet p (n + 2) = true
      · rw [hl'] at hr7' ⊢
        rw [if_pos rfl] at hr7'
        simp only [if_true]
        have hl2 := isLet_lt hl'
        have HL' := Lib.hid hl'
        have Q8 := Lib.hid q7
        clear hl' q7
        have hv1 : ((sub1 p (n + 2)).toList.isEmpty) = false := by rw [Lib.toList_data, sub1_data hl2]; rfl
        go_wp2_with fail
        refine (contains_any ar (sub1 p (n + 2)) _ (sub1_size hl2)).mono ?_
        rintro e w8 ⟨rfl, rfl⟩
        rw [show bAt (sub1 p (n + 2)) 0 = bAt p (n + 2) from bAt_sub1 hl2]
        by_cases hh' : has ar (bAt p (n + 2)) = true
        · rw [hh']
          have HH' := Lib.hid hh'
          clear hh'
          go_wp2_with fail
          refine (contains_any (sub1 p (n + 1)) (sub1 p (n + 2)) _ (sub1_size hl2)).mono ?_
          rintro e w8 ⟨rfl, rfl⟩
          rw [show bAt (sub1 p (n + 2)) 0 = bAt p (n + 2) from bAt_sub1 hl2]
          by_cases hs : has (sub1 p (n + 1)) (bAt p (n + 2)) = true
          · rw [hs]
            have HS := Lib.hid hs
            clear hs
            go_wp2_with fail
            go_ret2
            exact ⟨HG8.out, .inl ⟨vars_none hn (by rw [hc, HM.out, read_two, if_pos ⟨HL.out, HH.out⟩, if_neg (fun h => by rw [HS.out] at h; cases h.2.2)]), _, rfl⟩⟩
          · rw [show has (sub1 p (n + 1)) (bAt p (n + 2)) = false by simpa using hs]
            have HS := Lib.hid (show has (sub1 p (n + 1)) (bAt p (n + 2)) = false by simpa using hs)
            clear hs
            have hz := sub1_size hl2
            have hz' := sub1_size hl1
            go_wp2_with fail
            generalize hW9 : w7.setCell ⟨gs, 3, none⟩ _ = W7
            have q9 : Nd W7 gs c.toNat n 0 (sub1 p (n + 1) ++ sub1 p (n + 2)) ar (.slice none 0 0) := by
              rw [← hW9]
              exact Q8.out.vars _
            have hr7 : Rdr W7 b p (n + 3) := by rw [← hW9]; exact hr7'.far hne.symm _
            have hG9 : w7.grownBy W7 (some gs) := by rw [← hW9]; exact grown_set _ _ _ _
            have Q7 := Lib.hid q9
            have HG7 := Lib.hid (HG8.out.andThen hG9 (fun j hj => by cases hj; exact .inl (by have := HG.out; omega)))
            have hk : ((c.toNat : Int) == 123) = false := by
              rw [beq_eq_false_iff_ne]
              intro h
              exact HK.out ((byte_eq c 123).1 h)
            clear hW9 q9 hG9 hz hz' hv1 q73 q7f
            rw [rounds_succ]
            go_wp2_with (first
              | (refine wpList_insert rfl _ _ _ rfl rfl (Made.start_ ?_) ?_ _ _ rfl rfl ?_ ?_ ?_; simp; decide; decide; decide; intro W8 M8; have q := Q7.out.grown M8.grown (by simp); have q0 := q.c0; have qf := q.fz 2; have q2 := q.c2; have z := (hr7.grown M8.grown (by simp)).c1)
              | (refine wpList_insert rfl _ _ _ rfl rfl (by assumption) ?_ _ _ rfl rfl ?_ ?_ ?_; decide; decide; decide; intro W8 M8; have q := Q7.out.grown M8.grown (by simp); have q0 := q.c0; have qf := q.fz 2; have q2 := q.c2; have z := (hr7.grown M8.grown (by simp)).c1)
              | (refine wpList_asked rfl _ _ rfl rfl (by assumption) _ _ rfl (byte_wf c) (brackets_key HB.out) ?_))
            refine wp_loop_rounds 1 ?_
            rw [rounds_succ]
            go_wp2_with fail
            go_ret2
            have hq := q.en_ (((n + 3 : Nat) : Int))
            have hr9 := (hr7.grown M8.grown (by simp)).far (i := 2) hne.symm (.int .i64 (((n + 3 : Nat) : Int)))
            have hgs := HG.out
            refine ⟨?_, .inr ⟨⟨c, n, n + 3, sub1 p (n + 1) ++ sub1 p (n + 2), ar, 0⟩, .nil, .nil, n + 3, gs, ?_, by omega, rfl, hr9, ?_⟩⟩
            · have b := HG7.out
              have c' := World.grownBy.trans b (M8.grown.but _)
              exact c'.andThen (grown_set W8 gs 2 _) (fun j hj => by cases hj; omega)
            · have h1 := plain_some (p := p) (ar := ar) (n := n) (sc := sc) hn (vs := sub1 p (n + 1) ++ sub1 p (n + 2)) (m := n + 3) (by rw [hc]; exact HB.out) (by rw [hc]; exact HK.out) (by rw [hc, HM.out, read_two, if_pos ⟨HL.out, HH.out⟩, if_pos ⟨HL'.out, HH'.out, HS.out⟩])
              rw [h1, hc]
            · exact ⟨gs, .slice none 0 0, .slice none 0 0, .slice none 0 0, [], [], [], rfl, by omega, hq, rfl, Own.nil _ _ _, rfl, Own.nil _ _ _, Nat.zero_le _, Own.nil _ _ _, rfl⟩
        · rw [show has ar (bAt p (n + 2)) = false by simpa using hh']
          have HH' := Lib.hid hh'
          clear hh'
          go_wp2_with fail
          go_ret2
          exact ⟨HG8.out, .inl ⟨vars_none hn (by rw [hc, HM.out, read_two, if_pos ⟨HL.out, HH.out⟩, if_neg (fun h => HH'.out h.2.1)]), _, rfl⟩⟩
      · rw [show isLet p (n + 2) = false by simpa using hl'] at hr7' ⊢
        have HL' := Lib.hid hl'
        clear hl' q7
        simp only [Bool.false_eq_true, if_false]
        go_wp2_with fail
        go_ret2
        exact ⟨HG8.out, .inl ⟨vars_none hn (by rw [hc, HM.out, read_two, if_pos ⟨HL.out, HH.out⟩, if_neg (fun h => HL'.out h.1)]), _, rfl⟩⟩
    · rw [show has ar (bAt p (n + 1)) = false by simpa using hh]
      have HH := Lib.hid hh
      clear hh
      go_wp2_with fail
      go_ret2
      exact ⟨HG5.out, .inl ⟨vars_none hn (by rw [hc, HM.out, read_two, if_neg (fun h => HH.out h.2)]), _, rfl⟩⟩
  · rw [show isLet p (n + 1) = false by simpa using hl] at hr5 ⊢
    have HL := Lib.hid hl
    clear hl q5
    simp only [Bool.false_eq_true, if_false]
    go_wp2_with fail
    go_ret2
    exact ⟨HG5.out, .inl ⟨vars_none hn (by rw [hc, HM.out, read_two, if_neg (fun h => HL.out h.1)]), _, rfl⟩⟩
end Go.Proofs.Ytopgkaekbbaglaa
