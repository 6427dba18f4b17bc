/- The contract of the program's reader of one step: a branch. -/
import Derived.Test.YtopgkaekbbaglaaIh
namespace Go.Proofs.Ytopgkaekbbaglaa
open Go.RowKit Pl

set_option maxHeartbeats 800000 in
set_option maxRecDepth 1000000 in
theorem step_branch (p : ByteArray) (n : Nat) (hp : p.size ≤ 80) (hc63 : bAt p n = 63) (hBd : ∀ m, n < m → BodyC p m) : StepC p n := by
  intro w b ar sc hr hn har hsc
  have hm : many (bAt p n) = 0 := by rw [hc63]; rfl
  have hbr : inBrackets (bAt p n) = 2 := by rw [hc63]; rfl
  have hsc' : bAt p n ≠ 123 := by rw [hc63]; decide
  have HC := Lib.hid hc63
  clear hc63
  have hmm := @run_makeMap Try.prog
  have h0 := hr.c0
  have h1 := hr.c1
  go_enter Try.func57, Try.ntmps57
  go_wp2_with fail
  go_region
  have hblt := hr.lt
  generalize hW : (w.alloc (.cells #[.int .u8 (p[n]'hn).toNat, .int .i64 n, .int .i64 0, .string ⟨#[]⟩, .string ar, .slice none 0 0] 60)).drew = W1
  have hr1 : Rdr W1 b p n := by rw [← hW]; show Rdr (w.alloc _) b p n; exact hr.grown (r := none) (World.grownBy_alloc w _ none) (by simp)
  have hN1 : Nd W1 w.heap.size (p[n]'hn).toNat n 0 ⟨#[]⟩ ar (.slice none 0 0) := by rw [← hW]; show Nd (w.alloc _) _ _ _ _ _ _ _; exact heap_alloc_new w _
  have hG1 : w.grownBy W1 none := by
    rw [← hW]
    have z := World.grownBy_alloc w (.cells #[.int .u8 (p[n]'hn).toNat, .int .i64 n, .int .i64 0, .string ⟨#[]⟩, .string ar, .slice none 0 0] 60) none
    exact ⟨z.os, z.tape, z.output, z.size, z.block⟩
  rw [bAt_get hn] at hN1 ⊢
  generalize hgs : w.heap.size = gs at *
  have hne : gs ≠ b := by omega
  have hN2 := hN1.far (i := 1) hne (.int .i64 ((n : Int) + 1))
  have hr2 : Rdr (W1.setCell ⟨b, 1, none⟩ (.int .i64 ((n : Int) + 1))) b p (n + 1) := hr1.set
  have hG2 := World.grownBy.trans (hG1.but (some b)) (grown_set W1 b 1 (.int .i64 ((n : Int) + 1)))
  have g0 := hr1.c0
  have g1 := hr1.c1
  have gf := hr1.fz 1
  have HW := Lib.hid hW
  have HG := Lib.hid hgs
  have HM := Lib.hid hm
  have HB := Lib.hid hbr
  have HK := Lib.hid hsc'
  clear hW hgs h0 h1 hm hbr hsc'
  generalize hc : bAt p n = c at *
  go_wp2_with (first
    | (refine wpList_insert rfl _ _ _ rfl rfl (Made.start_ ?_) ?_ _ _ rfl rfl ?_ ?_ ?_; simp; decide; decide; decide; intro W4 M4; have q := hN2.grown M4.grown (by simp); have q0 := q.c0)
    | (refine wpList_insert rfl _ _ _ rfl rfl (by assumption) ?_ _ _ rfl rfl ?_ ?_ ?_; decide; decide; decide; intro W4 M4; have q := hN2.grown M4.grown (by simp); have q0 := q.c0)
    | (refine wpList_asked rfl _ _ rfl rfl (by assumption) _ _ rfl (byte_wf c) (many_key HM.out) ?_))
  have hr4 := hr2.grown M4.grown (by simp)
  have hG4 := World.grownBy.trans hG2 (M4.grown.but (some b))
  have HG4 := Lib.hid hG4
  have Q4 := Lib.hid q
  clear hG4 q hG1 hG2 hN1 hN2 hr1 hr2 g0 g1 gf
  have hr7 := hr4
  have Q7 := Q4
  have HG7 := HG4
  have hk : ((c.toNat : Int) == 123) = false := by
    rw [beq_eq_false_iff_ne]
    intro h
    exact HK.out ((byte_eq c 123).1 h)
  clear q0
  refine wp_loop_rounds 1 ?_
  rw [rounds_succ]
  go_wp2_with (first
    | (refine wpList_insert rfl _ _ _ rfl rfl (Made.start_ ?_) ?_ _ _ rfl rfl ?_ ?_ ?_; simp; decide; decide; decide; intro W8 M8; have q := Q7.out.grown M8.grown (by simp); have q0 := q.c0; have qf := q.fz 2; have q2 := q.c2; have z := (hr7.grown M8.grown (by simp)).c1)
    | (refine wpList_insert rfl _ _ _ rfl rfl (by assumption) ?_ _ _ rfl rfl ?_ ?_ ?_; decide; decide; decide; intro W8 M8; have q := Q7.out.grown M8.grown (by simp); have q0 := q.c0; have qf := q.fz 2; have q2 := q.c2; have z := (hr7.grown M8.grown (by simp)).c1)
    | (refine wpList_asked rfl _ _ rfl rfl (by assumption) _ _ rfl (byte_wf c) (brackets_key HB.out) ?_))
  have hr8 := hr7.grown M8.grown (by simp)
  have HG8 := Lib.hid (World.grownBy.trans HG7.out (M8.grown.but _))
  have Q8 := Lib.hid q
  have hgsw := HG.out
  have hle8 := HG8.out.size
  have hgs8 := q.lt
  clear q q0 qf q2 z
  have HC63 := Lib.hid (hc.trans HC.out)
  refine wp_loop_rounds 3 ?_
  rw [rounds_succ]
  go_wp2_with fail
  refine (hBd (n + 1) (by omega) W8 b ar sc hr8 (by omega) (by omega) hsc).mono ?_
  rintro e w11 ⟨hg11, h⟩
  rcases h with ⟨h1, v1, rfl⟩ | ⟨t1, m1, v1, cs1, h1, hm1, rfl, hr11, hc11, ho11⟩
  · have H1 := Lib.hid h1
    clear h1
    go_wp2_with fail
    go_ret2
    exact ⟨World.grownBy.trans HG8.out hg11, .inl ⟨by rw [branch_eq hn HC63.out]; rw [H1.out], _, rfl⟩⟩
  · have H1 := Lib.hid h1
    have hgt1 : n + 1 < m1 := IBody_gt h1
    have q11 := Q8.out.grown hg11 (by simp; exact hne)
    have q115 := q11.c5
    have q11f := q11.fz 5
    have HG11 := Lib.hid (World.grownBy.trans HG8.out hg11)
    obtain ⟨A1, k1, hv1⟩ := ho11.form
    rw [hv1] at ho11 ⊢
    have hle11 := hg11.size
    have C11 := Lib.hid hc11
    have O11 := Lib.hid ho11
    have Q11 := Lib.hid q11
    clear h1 q11 hg11 hc11 ho11 hv1
    go_wp2_with (at_builtin; refine wpList_app1 rfl _ _ 58 56 (.slice none 0 0) 24 rfl Try.underlying58 info56 rfl (by decide) (.slice none 0 0) ([] : List Value) (.slice A1 cs1.length k1) rfl rfl rfl (Own.nil _ (fun _ => False) 56) (show (0 + 1) * 24 ≤ 140737488355328 by decide) ?_)
    intro u1 w12 ho12 hg12
    have q12 := Q11.out.grown hg12 (by first | (simp [Value.ownBlock]; done) | exact fun hk => by have := B0.out.let_ _ hk.symm; omega)
    have q125 := q12.c5
    have q12f := q12.fz 5
    have hr12 := hr11.grown hg12 (by first | (simp [Value.ownBlock]; done) | exact fun hk => by have := B0.out.let_ _ hk.symm; omega)
    have hle12 := hg12.size
    have HG12 := Lib.hid (HG11.out.andThen hg12 (fun j hj => by first | (simp [Value.ownBlock] at hj; done) | exact .inl (by have := B0.out.let_ j hj; omega)))
    have T1 := Lib.hid ((C11.out.bound.mono (ok' := fun j => W8.heap.size ≤ j ∧ j < w11.heap.size) (fun j hj => hj)).kept hg12 (fun j hj => by first | (simp [Value.ownBlock]; done) | exact fun hk => by have := B0.out.let_ j hk.symm; omega))
    have V1 := Lib.hid ((O11.out.bound.mono (ok' := fun j => W8.heap.size ≤ j ∧ j < w11.heap.size) (fun j hj => hj)).kept hg12 (fun j hj => by first | (simp [Value.ownBlock]; done) | exact fun hk => by have := B0.out.let_ j hk.symm; omega))
    obtain ⟨D1, l1, hu1'⟩ := ho12.form1 (show 0 < 1 by decide)
    have hu1 : u1 = .slice (some ⟨D1, 0, none⟩) 1 l1 := hu1'
    rw [hu1] at ho12 ⊢
    have B1 := Lib.hid (ho12.mono (ok' := fun j => w11.heap.size ≤ j) (fun j hj => hj.elim (fun hj => by simp [Value.ownBlock] at hj) (fun hj => by omega)))
    have Q12 := Lib.hid q12
    clear hg12 ho12 hu1 hu1' q12 q115 q11f
    go_wp2_with fail
    generalize hW13 : w12.setCell ⟨gs, 5, none⟩ _ = W13
    have hg13 : w12.grownBy W13 (some gs) := by rw [← hW13]; exact grown_set _ _ _ _
    have q13 := Q12.out.bodies (.slice (some ⟨D1, 0, none⟩) 1 l1)
    rw [show w12.setCell ⟨gs, 5, none⟩ (.slice (some ⟨D1, 0, none⟩) 1 l1) = W13 from hW13] at q13
    have hr13 : Rdr W13 b p m1 := by rw [← hW13]; exact hr12.far hne.symm _
    have HG13 := Lib.hid (HG12.out.andThen hg13 (fun j hj => by cases hj; exact .inl (by omega)))
    have T1 := Lib.hid (T1.out.kept hg13 (fun j hj => by simp; omega))
    have V1 := Lib.hid (V1.out.kept hg13 (fun j hj => by simp; omega))
    have B1 := Lib.hid ((B1.out.kept hg13 (fun j hj => by simp; omega)).bound.mono (ok' := fun j => w11.heap.size ≤ j ∧ j < W13.heap.size) (fun j hj => hj))
    have Q13 := Lib.hid q13
    have hle13 := hg13.size
    have q130 := q13.c0
    have q132 := q13.c2
    have q13f2 := q13.fz 2
    have z13 := hr13.c1
    clear hW13 hg13 q13 hr11 hr12 q125 q12f
    rw [rounds_succ]
    go_wp2_with fail
    refine (hBd (m1) (by omega) W13 b ar sc hr13 (by omega) (by omega) hsc).mono ?_
    rintro e w21 ⟨hg21, h⟩
    rcases h with ⟨h1, v2, rfl⟩ | ⟨t2, m2, v2, cs2, h1, hm2, rfl, hr21, hc21, ho21⟩
    · have H2 := Lib.hid h1
      clear h1
      go_wp2_with fail
      go_ret2
      exact ⟨World.grownBy.trans HG13.out hg21, .inl ⟨by rw [branch_eq hn HC63.out, H1.out]; simp only []; rw [H2.out], _, rfl⟩⟩
    · have H2 := Lib.hid h1
      have hgt2 : m1 < m2 := IBody_gt h1
      have q21 := Q13.out.grown hg21 (by simp; exact hne)
      have q215 := q21.c5
      have q21f := q21.fz 5
      have HG21 := Lib.hid (World.grownBy.trans HG13.out hg21)
      obtain ⟨A2, k2, hv2⟩ := ho21.form
      rw [hv2] at ho21 ⊢
      have hle21 := hg21.size
      have T1 := Lib.hid (T1.out.kept hg21 (fun j hj => by simp; omega))
      have V1 := Lib.hid (V1.out.kept hg21 (fun j hj => by simp; omega))
      have B1 := Lib.hid (B1.out.kept hg21 (fun j hj => by simp; omega))
      have C21 := Lib.hid hc21
      have O21 := Lib.hid ho21
      have Q21 := Lib.hid q21
      clear h1 q21 hg21 hc21 ho21 hv2
      go_wp2_with (at_builtin; refine wpList_app1 rfl _ _ 58 56 (.slice none 0 0) 24 rfl Try.underlying58 info56 rfl (by decide) (.slice (some ⟨D1, 0, none⟩) 1 l1) [Value.slice A1 cs1.length k1] (.slice A2 cs2.length k2) rfl rfl rfl B1.out (show (1 + 1) * 24 ≤ 140737488355328 by decide) ?_)
      intro u2 w22 ho22 hg22
      have q22 := Q21.out.grown hg22 (by first | (simp [Value.ownBlock]; done) | exact fun hk => by have := B1.out.let_ _ hk.symm; omega)
      have q225 := q22.c5
      have q22f := q22.fz 5
      have hr22 := hr21.grown hg22 (by first | (simp [Value.ownBlock]; done) | exact fun hk => by have := B1.out.let_ _ hk.symm; omega)
      have hle22 := hg22.size
      have HG22 := Lib.hid (HG21.out.andThen hg22 (fun j hj => by first | (simp [Value.ownBlock] at hj; done) | exact .inl (by have := B1.out.let_ j hj; omega)))
      have T2 := Lib.hid ((C21.out.bound.mono (ok' := fun j => W13.heap.size ≤ j ∧ j < w21.heap.size) (fun j hj => hj)).kept hg22 (fun j hj => by first | (simp [Value.ownBlock]; done) | exact fun hk => by have := B1.out.let_ j hk.symm; omega))
      have V2 := Lib.hid ((O21.out.bound.mono (ok' := fun j => W13.heap.size ≤ j ∧ j < w21.heap.size) (fun j hj => hj)).kept hg22 (fun j hj => by first | (simp [Value.ownBlock]; done) | exact fun hk => by have := B1.out.let_ j hk.symm; omega))
      have T1 := Lib.hid (T1.out.kept hg22 (fun j hj => by first | (simp [Value.ownBlock]; done) | exact fun hk => by have := B1.out.let_ j hk.symm; omega))
      have V1 := Lib.hid (V1.out.kept hg22 (fun j hj => by first | (simp [Value.ownBlock]; done) | exact fun hk => by have := B1.out.let_ j hk.symm; omega))
      obtain ⟨D2, l2, hu2'⟩ := ho22.form1 (show 0 < 2 by decide)
      have hu2 : u2 = .slice (some ⟨D2, 0, none⟩) 2 l2 := hu2'
      rw [hu2] at ho22 ⊢
      have B2 := Lib.hid (ho22.mono (ok' := fun j => w11.heap.size ≤ j) (fun j hj => hj.elim (fun hj => (B1.out.let_ j hj).1) (fun hj => by omega)))
      have Q22 := Lib.hid q22
      clear hg22 ho22 hu2 hu2' q22 q215 q21f
      go_wp2_with fail
      generalize hW23 : w22.setCell ⟨gs, 5, none⟩ _ = W23
      have hg23 : w22.grownBy W23 (some gs) := by rw [← hW23]; exact grown_set _ _ _ _
      have q23 := Q22.out.bodies (.slice (some ⟨D2, 0, none⟩) 2 l2)
      rw [show w22.setCell ⟨gs, 5, none⟩ (.slice (some ⟨D2, 0, none⟩) 2 l2) = W23 from hW23] at q23
      have hr23 : Rdr W23 b p m2 := by rw [← hW23]; exact hr22.far hne.symm _
      have HG23 := Lib.hid (HG22.out.andThen hg23 (fun j hj => by cases hj; exact .inl (by omega)))
      have T2 := Lib.hid (T2.out.kept hg23 (fun j hj => by simp; omega))
      have V2 := Lib.hid (V2.out.kept hg23 (fun j hj => by simp; omega))
      have B2 := Lib.hid ((B2.out.kept hg23 (fun j hj => by simp; omega)).bound.mono (ok' := fun j => w11.heap.size ≤ j ∧ j < W23.heap.size) (fun j hj => hj))
      have T1 := Lib.hid (T1.out.kept hg23 (fun j hj => by simp; omega))
      have V1 := Lib.hid (V1.out.kept hg23 (fun j hj => by simp; omega))
      have Q23 := Lib.hid q23
      have hle23 := hg23.size
      have q230 := q23.c0
      have q232 := q23.c2
      have q23f2 := q23.fz 2
      have z23 := hr23.c1
      clear hW23 hg23 q23 hr21 hr22 q225 q22f
      rw [rounds_succ]
      go_wp2_with fail
      go_ret2
      have hgL := grown_set W23 gs 2 (.int .i64 (m2 : Int))
      have hq := Q23.out.en_ (m2 : Int)
      rw [show c = 63 from HC.out] at hq
      have hrL := hr23.far (i := 2) hne.symm (.int .i64 (m2 : Int))
      have T1' := T1.out.kept hgL (fun j hj => by simp; omega)
      have V1' := V1.out.kept hgL (fun j hj => by simp; omega)
      have B' := B2.out.kept hgL (fun j hj => by simp; omega)
      have T2' := T2.out.kept hgL (fun j hj => by simp; omega)
      have V2' := V2.out.kept hgL (fun j hj => by simp; omega)
      refine ⟨HG23.out.andThen hgL (fun j hj => by cases hj; omega), .inr ⟨⟨63, n, m2, ByteArray.empty, ar, 2⟩, t1, t2, m2, gs, by rw [branch_eq hn HC63.out, H1.out]; simp only []; rw [H2.out], hm2, rfl, hrL, ?_⟩⟩
      exact ⟨gs, _, (.slice A1 cs1.length k1), (.slice A2 cs2.length k2), [], cs1, cs2, rfl, by omega, hq, T1'.mono (fun j hj => by omega), V1'.mono (fun j hj => by omega), T2'.mono (fun j hj => by omega), V2'.mono (fun j hj => by omega), (show 2 ≤ 2 by decide), B'.mono (fun j hj => by omega), rfl⟩
end Go.Proofs.Ytopgkaekbbaglaa
