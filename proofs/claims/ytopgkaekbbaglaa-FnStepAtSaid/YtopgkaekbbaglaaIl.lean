/- The contract of the program's reader of one step: a scope. -/
import Derived.Test.YtopgkaekbbaglaaIh
namespace Go.Proofs.Ytopgkaekbbaglaa
open Go.RowKit Pl

/-- the rounds' relation of the variables that a scope declares -/
def ScopeRel (p ar : ByteArray) (n b gs : Nat) (c : UInt8) (w : World) (k : Nat) (v : Value) (wr : World) : Prop :=
  ∃ acc m, v = .string (if isLet p m = true then sub1 p m else ⟨#[]⟩) ∧ declVars p ar (p.size - (n + 1)) (n + 1) ByteArray.empty = declVars p ar (p.size - m) m acc ∧
    Rdr wr b p (if isLet p m = true then m + 1 else m) ∧ Nd wr gs c.toNat n 0 acc ar (.slice none 0 0) ∧ w.grownBy wr (some b) ∧ m ≤ p.size ∧ acc.size + n + 1 ≤ m ∧ k = p.size - m
theorem decl_step {p ar acc : ByteArray} {m : Nat} (hl : isLet p m = true) (hh : has (ar ++ acc) (bAt p m) = false) : declVars p ar (p.size - m) m acc = declVars p ar (p.size - (m + 1)) (m + 1) (acc ++ sub1 p m) := by
  have hlt := isLet_lt hl
  obtain ⟨k, hk⟩ : ∃ k, p.size - m = k + 1 := ⟨p.size - m - 1, by omega⟩
  rw [hk, show p.size - (m + 1) = k by omega, declVars, if_pos hl, if_neg (by simp [hh])]
theorem decl_taken {p ar acc : ByteArray} {m : Nat} (hl : isLet p m = true) (hh : has (ar ++ acc) (bAt p m) = true) : declVars p ar (p.size - m) m acc = none := by
  have hlt := isLet_lt hl
  obtain ⟨k, hk⟩ : ∃ k, p.size - m = k + 1 := ⟨p.size - m - 1, by omega⟩
  rw [hk, declVars, if_pos hl, if_pos hh]
theorem decl_end {p ar acc : ByteArray} {m : Nat} (hl : isLet p m = false) : declVars p ar (p.size - m) m acc = some (acc, m) := by
  cases hk : p.size - m with
  | zero => rfl
  | succ k => rw [declVars, if_neg (by simp [hl])]
theorem empty_size {s : ByteArray} : s.toList.isEmpty = decide (s.size = 0) := by
  rw [Lib.toList_data]
  have h : s.data.toList.length = s.size := Array.length_toList
  cases hs : s.data.toList with
  | nil => rw [hs] at h; simp at h; simp [← h]
  | cons a l => rw [hs] at h; simp at h; simp [← h]

set_option maxHeartbeats 800000 in
set_option maxRecDepth 1000000 in
theorem step_scope (p : ByteArray) (n : Nat) (hp : p.size ≤ 80) (hc123 : bAt p n = 123) (hSt : ∀ m, n < m → StepsC p m) : StepC p n := by
  intro w b ar sc hr hn har hsc
  have hm : many (bAt p n) = 0 := by rw [hc123]; rfl
  have hbr : inBrackets (bAt p n) = 0 := by rw [hc123]; rfl
  have hsc' : bAt p n ≠ 42 := by rw [hc123]; decide
  have HC := Lib.hid hc123
  clear hc123
  have hmm := @run_makeMap Try.prog
  have h0 := hr.c0
  have h1 := hr.c1
  go_enter Try.func57, Try.ntmps57
  go_wp2_with fail
  go_region
  have hblt := hr.lt
  generalize hW : (w.alloc (.cells #[.int .u8 (p[n]'hn).toNat, .int .i64 n, .int .i64 0, .string ⟨#[]⟩, .string ar, .slice none 0 0] 60)).drew = W1
  have hr1 : Rdr W1 b p n := by rw [← hW]; show Rdr (w.alloc _) b p n; exact hr.grown (r := none) (World.grownBy_alloc w _ none) (by simp)
  have hN1 : Nd W1 w.heap.size (p[n]'hn).toNat n 0 ⟨#[]⟩ ar (.slice none 0 0) := by rw [← hW]; show Nd (w.alloc _) _ _ _ _ _ _ _; exact heap_alloc_new w _
  have hG1 : w.grownBy W1 none := by
    rw [← hW]
    have z := World.grownBy_alloc w (.cells #[.int .u8 (p[n]'hn).toNat, .int .i64 n, .int .i64 0, .string ⟨#[]⟩, .string ar, .slice none 0 0] 60) none
    exact ⟨z.os, z.tape, z.output, z.size, z.block⟩
  rw [bAt_get hn] at hN1 ⊢
  generalize hgs : w.heap.size = gs at *
  have hne : gs ≠ b := by omega
  have hN2 := hN1.far (i := 1) hne (.int .i64 ((n : Int) + 1))
  have hr2 : Rdr (W1.setCell ⟨b, 1, none⟩ (.int .i64 ((n : Int) + 1))) b p (n + 1) := hr1.set
  have hG2 := World.grownBy.trans (hG1.but (some b)) (grown_set W1 b 1 (.int .i64 ((n : Int) + 1)))
  have g0 := hr1.c0
  have g1 := hr1.c1
  have gf := hr1.fz 1
  have HW := Lib.hid hW
  have HG := Lib.hid hgs
  have HM := Lib.hid hm
  have HB := Lib.hid hbr
  have HK := Lib.hid hsc'
  clear hW hgs h0 h1 hm hbr hsc'
  generalize hc : bAt p n = c at *
  go_wp2_with (first
    | (refine wpList_insert rfl _ _ _ rfl rfl (Made.start_ ?_) ?_ _ _ rfl rfl ?_ ?_ ?_; simp; decide; decide; decide; intro W4 M4; have q := hN2.grown M4.grown (by simp); have q0 := q.c0)
    | (refine wpList_insert rfl _ _ _ rfl rfl (by assumption) ?_ _ _ rfl rfl ?_ ?_ ?_; decide; decide; decide; intro W4 M4; have q := hN2.grown M4.grown (by simp); have q0 := q.c0)
    | (refine wpList_asked rfl _ _ rfl rfl (by assumption) _ _ rfl (byte_wf c) (many_key HM.out) ?_))
  have hr4 := hr2.grown M4.grown (by simp)
  have hG4 := World.grownBy.trans hG2 (M4.grown.but (some b))
  have HG4 := Lib.hid hG4
  have Q4 := Lib.hid q
  clear hG4 q hG1 hG2 hN1 hN2 hr1 hr2 g0 g1 gf
  have hr7 := hr4
  have Q7 := Q4
  have HG7 := HG4
  have hk : ((c.toNat : Int) == 123) = true := by rw [show c = 123 from HC.out]; rfl
  clear q0
  refine wp_loop_rounds 1 ?_
  rw [rounds_succ]
  go_wp2_with (first
    | (refine wpList_insert rfl _ _ _ rfl rfl (Made.start_ ?_) ?_ _ _ rfl rfl ?_ ?_ ?_; simp; decide; decide; decide; intro W8 M8; have q := Q7.out.grown M8.grown (by simp); have q0 := q.c0; have qf := q.fz 2; have q2 := q.c2; have z := (hr7.grown M8.grown (by simp)).c1)
    | (refine wpList_insert rfl _ _ _ rfl rfl (by assumption) ?_ _ _ rfl rfl ?_ ?_ ?_; decide; decide; decide; intro W8 M8; have q := Q7.out.grown M8.grown (by simp); have q0 := q.c0; have qf := q.fz 2; have q2 := q.c2; have z := (hr7.grown M8.grown (by simp)).c1)
    | (refine wpList_asked rfl _ _ rfl rfl (by assumption) _ _ rfl (byte_wf c) (brackets_key HB.out) ?_))
  have hr8 := hr7.grown M8.grown (by simp)
  have HG8 := Lib.hid (World.grownBy.trans HG7.out (M8.grown.but _))
  have Q8 := Lib.hid q
  have hgsw := HG.out
  have hle8 := HG8.out.size
  have hgs8 := q.lt
  clear q qf q2 z
  have HC123 := Lib.hid (hc.trans HC.out)
  refine wp_loop_rounds 1 ?_
  rw [rounds_succ]
  go_wp2_with fail
  refine (letter_any _ b (n + 1) p hr8 (by omega)).mono ?_
  rintro e w9 ⟨rfl, hr9, hg9⟩
  have HG9 := Lib.hid (World.grownBy.trans HG8.out hg9)
  have Q9 := Lib.hid (Q8.out.grown hg9 (by simp; exact hne))
  have HR9 := Lib.hid hr9
  generalize hlv : (if isLet p (n + 1) = true then sub1 p (n + 1) else (⟨#[]⟩ : ByteArray)) = lv
  have HLV := Lib.hid hlv
  clear hg9 q0 hr9 hlv
  go_wp2_with fail
  go_loopg [13] (p.size - (n + 1)) (fun k v wr => ScopeRel p ar n b gs c w k v wr)
  case atStart => exact ⟨ByteArray.empty, n + 1, by rw [HLV.out], rfl, HR9.out, Q9.out, HG9.out, by omega, by simp, rfl⟩
  case round =>
    obtain ⟨acc, m, rfl, hd, hrm, qm, hgm, hm, hacc, rfl⟩ := hrel
    have HD := Lib.hid hd
    have HGm := Lib.hid hgm
    have Qm := Lib.hid qm
    have hgsm := qm.lt
    have qm3 := qm.c3
    have qmf := qm.fz 3
    clear hd hgm qm
    by_cases hl : isLet p m = true
    · rw [hl] at hrm ⊢
      rw [if_pos rfl] at hrm
      simp only [if_true]
      have hl1 := isLet_lt hl
      have HL := Lib.hid hl
      clear hl
      have hv1 : ((sub1 p m).toList.isEmpty) = false := by rw [Lib.toList_data, sub1_data hl1]; rfl
      have hz1 : ar.size ≤ 80 := by omega
      have hz2 : acc.size ≤ 80 := by omega
      go_wp2_with fail
      refine (contains_any (ar ++ acc) (sub1 p m) _ (sub1_size hl1)).mono ?_
      rintro e w10 ⟨rfl, rfl⟩
      rw [show bAt (sub1 p m) 0 = bAt p m from bAt_sub1 hl1]
      by_cases hh : has (ar ++ acc) (bAt p m) = true
      · rw [hh]
        have HH := Lib.hid hh
        clear hh
        go_wp2_with fail
        go_ret2
        exact ⟨HGm.out, .inl ⟨by rw [scope_eq hn HC123.out, HD.out, decl_taken HL.out HH.out], _, rfl⟩⟩
      · rw [show has (ar ++ acc) (bAt p m) = false by simpa using hh]
        have HH := Lib.hid (show has (ar ++ acc) (bAt p m) = false by simpa using hh)
        clear hh
        have hz3 := sub1_size hl1
        go_wp2_with fail
        generalize hW : wr.setCell ⟨gs, 3, none⟩ _ = W11
        have q11 : Nd W11 gs c.toNat n 0 (acc ++ sub1 p m) ar (.slice none 0 0) := by rw [← hW]; exact Qm.out.vars _
        have hr11 : Rdr W11 b p (m + 1) := by rw [← hW]; exact hrm.far hne.symm _
        have HG11 := Lib.hid (HGm.out.andThen (show wr.grownBy W11 (some gs) by rw [← hW]; exact grown_set _ _ _ _) (fun j hj => by cases hj; exact .inl (by omega)))
        have Q11 := Lib.hid q11
        clear hW q11 qm3 qmf hv1
        refine (letter_any _ b (m + 1) p hr11 (by omega)).mono ?_
        rintro e w12 ⟨rfl, hr12, hg12⟩
        have HG12 := Lib.hid (World.grownBy.trans HG11.out hg12)
        have Q12 := Lib.hid (Q11.out.grown hg12 (by simp; exact hne))
        have HR12 := Lib.hid hr12
        generalize hlv2 : (if isLet p (m + 1) = true then sub1 p (m + 1) else (⟨#[]⟩ : ByteArray)) = lv2
        have HLV2 := Lib.hid hlv2
        clear hg12 hr12 hlv2
        go_wp2_with fail
        go_roundg (p.size - (m + 1))
        case measure => omega
        case rel =>
          exact ⟨acc ++ sub1 p m, m + 1, by rw [HLV2.out], by rw [HD.out, decl_step HL.out HH.out], HR12.out, Q12.out, HG12.out, by omega, by rw [ByteArray.size_append, hz3]; omega, rfl⟩
    · rw [show isLet p m = false by simpa using hl] at hrm ⊢
      have HL := Lib.hid (show isLet p m = false by simpa using hl)
      clear hl
      simp only [Bool.false_eq_true, if_false] at hrm ⊢
      by_cases hz : acc.size = 0
      · have he : acc.toList.isEmpty = true := by rw [empty_size]; simpa using hz
        have HZ := Lib.hid hz
        clear hz
        go_wp2_with fail
        go_ret2
        exact ⟨HGm.out, .inl ⟨by rw [scope_eq hn HC123.out, HD.out, decl_end HL.out]; simp only []; rw [if_pos (.inl HZ.out)], _, rfl⟩⟩
      · have he : acc.toList.isEmpty = false := by rw [empty_size]; simpa using hz
        have HZ := Lib.hid hz
        clear hz
        by_cases h4 : sc = 4
        · have h4' : ((sc : Int) == 4) = true := by rw [h4]; rfl
          have H4 := Lib.hid h4
          clear h4
          go_wp2_with fail
          go_ret2
          exact ⟨HGm.out, .inl ⟨by rw [scope_eq hn HC123.out, HD.out, decl_end HL.out]; simp only []; rw [if_pos (.inr (.inl H4.out))], _, rfl⟩⟩
        · have h4' : ((sc : Int) == 4) = false := by rw [beq_eq_false_iff_ne]; omega
          go_wp2_with fail
          refine (takes_any wr b m p 58 _ rfl hrm (by omega)).mono ?_
          rintro e w13 ⟨rfl, hr13, hg13⟩
          have q13 := Qm.out.grown hg13 (by simp; exact hne)
          have q133 := q13.c3
          have HG13 := Lib.hid (World.grownBy.trans HGm.out hg13)
          have Q13 := Lib.hid q13
          have hle13 := hg13.size
          clear hg13 q13 qm3 qmf
          by_cases hco : isAt p m 58 = true
          · rw [hco] at hr13 ⊢
            rw [if_pos rfl] at hr13
            have hco1 := isAt_lt hco
            have HCo := Lib.hid hco
            clear hco
            have hz1 : ar.size ≤ 80 := by omega
            have hz2 : acc.size ≤ 80 := by omega
            have hsc3 : sc ≤ 3 := by omega
            go_wp2_with fail
            rw [show ((sc : Int) + 1) = ((sc + 1 : Nat) : Int) from rfl]
            refine (hSt (m + 1) (by omega) w13 b (ar ++ acc) (sc + 1) hr13 (by omega) (by rw [ByteArray.size_append]; omega) (by omega)).mono ?_
            rintro e w14 ⟨hg14, h⟩
            rcases h with ⟨h1, v1, rfl⟩ | ⟨t1, m1, v1, cs1, h1, hm1, rfl, hr14, hc14, ho14⟩
            · have H1 := Lib.hid h1
              clear h1
              go_wp2_with fail
              go_ret2
              exact ⟨World.grownBy.trans HG13.out hg14, .inl ⟨by rw [scope_eq hn HC123.out, HD.out, decl_end HL.out]; simp only []; rw [if_neg (by rintro (h | h | h); exact HZ.out h; exact h4 h; rw [HCo.out] at h; cases h), H1.out], _, rfl⟩⟩
            · have H1 := Lib.hid h1
              have q14 := Q13.out.grown hg14 (by simp; exact hne)
              have HG14 := Lib.hid (World.grownBy.trans HG13.out hg14)
              have hle14 := hg14.size
              obtain ⟨A1, k1, hv1⟩ := ho14.form
              rw [hv1] at ho14 ⊢
              have C14 := Lib.hid hc14
              have O14 := Lib.hid ho14
              have Q14 := Lib.hid q14
              clear h1 q14 hg14 hc14 ho14 hv1 q133
              go_wp2_with fail
              refine (takes_any w14 b m1 p 125 _ rfl hr14 (by omega)).mono ?_
              rintro e w15 ⟨rfl, hr15, hg15⟩
              have q15 := Q14.out.grown hg15 (by simp; exact hne)
              have HG15 := Lib.hid (World.grownBy.trans HG14.out hg15)
              have C15 := Lib.hid ((C14.out.bound.mono (ok' := fun j => w13.heap.size ≤ j ∧ j < w14.heap.size) (fun j hj => hj)).kept hg15 (fun j hj => by simp; omega))
              have O15 := Lib.hid ((O14.out.bound.mono (ok' := fun j => w13.heap.size ≤ j ∧ j < w14.heap.size) (fun j hj => hj)).kept hg15 (fun j hj => by simp; omega))
              have hle15 := hg15.size
              by_cases hbr : isAt p m1 125 = true
              · rw [hbr] at hr15 ⊢
                rw [if_pos rfl] at hr15
                have hbr1 := isAt_lt hbr
                have HBr := Lib.hid hbr
                have q155 := q15.c5
                have q15f := q15.fz 5
                have Q15 := Lib.hid q15
                have hne' : b ≠ gs := hne.symm
                have qa := fun o => Q15.out.grown (World.grownBy_alloc w15 o none) (by simp)
                have qa5 := fun o => (qa o).c5
                have qa2 := fun o => (qa o).c2
                have qaf := fun o i => (qa o).fz i
                have za := fun o => (hr15.grown (World.grownBy_alloc w15 o none) (by simp)).c1
                have QA := Lib.hid qa
                clear hbr hg15 q15 qa q155 q15f
                go_wp2_with fail
                go_ret2
                have hgw : gs < w15.heap.size := by omega
                have x1 := World.grownBy_alloc w15 (.cells #[Value.slice A1 cs1.length k1] 56) none
                have o1 : Own (w15.alloc (.cells #[Value.slice A1 cs1.length k1] 56)) (fun j => w15.heap.size ≤ j) 56 (.slice (some ⟨w15.heap.size, 0, none⟩) 1 1) [Value.slice A1 cs1.length k1] :=
                  ⟨World.ownsRow_lit w15 #[Value.slice A1 cs1.length k1] 1 (Nat.zero_le _) (by decide) rfl, fun k hk => by cases hk; exact Nat.le_refl _⟩
                have n1 := QA.out (.cells #[Value.slice A1 cs1.length k1] 56)
                have r1 := hr15.grown x1 (by simp)
                have c1 := C15.out.kept x1 (fun j hj => by simp)
                have v1 := O15.out.kept x1 (fun j hj => by simp)
                generalize w15.alloc (.cells #[Value.slice A1 cs1.length k1] 56) = Wa at *
                have x2 := grown_set Wa gs 5 (.slice (some ⟨w15.heap.size, 0, none⟩) 1 1)
                have n2 := n1.bodies (.slice (some ⟨w15.heap.size, 0, none⟩) 1 1)
                have r2 := r1.far (i := 5) hne' (.slice (some ⟨w15.heap.size, 0, none⟩) 1 1)
                have c2 := c1.kept x2 (fun j hj => by simp; omega)
                have v2 := v1.kept x2 (fun j hj => by simp; omega)
                have o2 := o1.kept x2 (fun j hj => by simp; omega)
                generalize Wa.setCell ⟨gs, 5, none⟩ (.slice (some ⟨w15.heap.size, 0, none⟩) 1 1) = Wb at *
                have x3 := grown_set Wb gs 2 (.int .i64 ((m1 : Int) + 1))
                have n3 := n2.en_ ((m1 : Int) + 1)
                have r3 := r2.far (i := 2) hne' (.int .i64 ((m1 : Int) + 1))
                have c3 := c2.kept x3 (fun j hj => by simp; omega)
                have v3 := v2.kept x3 (fun j hj => by simp; omega)
                have o3 := o2.kept x3 (fun j hj => by simp; omega)
                rw [show c = 123 from HC.out] at n3
                refine ⟨((World.grownBy.trans HG15.out (x1.but _)).andThen x2 (fun j hj => by cases hj; omega)).andThen x3 (fun j hj => by cases hj; omega),
                  .inr ⟨⟨123, n, m1 + 1, acc, ar, 1⟩, t1, .nil, m1 + 1, gs, ?_, hbr1, rfl, r3, ?_⟩⟩
                · rw [scope_eq hn HC123.out, HD.out, decl_end HL.out]; simp only []; rw [if_neg (by rintro (h | h | h); exact HZ.out h; exact h4 h; rw [HCo.out] at h; cases h), H1.out]; simp only []; rw [if_pos HBr.out]
                · exact ⟨gs, _, (.slice A1 cs1.length k1), (.slice none 0 0), [], cs1, [], rfl, by omega, n3, c3.mono (fun j hj => by omega), v3.mono (fun j hj => by omega), rfl, Own.nil _ _ _, (show 1 ≤ 2 by decide), o3.mono (fun j hj => by omega), rfl⟩
              · rw [show isAt p m1 125 = false by simpa using hbr]
                have HBr := Lib.hid hbr
                clear hbr hg15 q15
                go_wp2_with fail
                go_ret2
                exact ⟨HG15.out, .inl ⟨by rw [scope_eq hn HC123.out, HD.out, decl_end HL.out]; simp only []; rw [if_neg (by rintro (h | h | h); exact HZ.out h; exact h4 h; rw [HCo.out] at h; cases h), H1.out]; simp only []; rw [if_neg HBr.out], _, rfl⟩⟩
          · rw [show isAt p m 58 = false by simpa using hco]
            have HCo := Lib.hid (show isAt p m 58 = false by simpa using hco)
            clear hco
            go_wp2_with fail
            go_ret2
            exact ⟨HG13.out, .inl ⟨by rw [scope_eq hn HC123.out, HD.out, decl_end HL.out]; simp only []; rw [if_pos (.inr (.inr HCo.out))], _, rfl⟩⟩
end Go.Proofs.Ytopgkaekbbaglaa
