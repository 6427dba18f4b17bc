/- StepsOf of the reference; the law. -/
import Derived.Test.YtopgkaekbbaglaaFg
namespace Go.Proofs.Ytopgkaekbbaglaa
open Go.RowKit Pl

section
variable {P : Program} {ops : Array Oper} {rest : List Oper} {o : Oper} {a : Act} {Q : Exit → Act → World → Prop}
/-- append of one element of one cell, which lies in the newest block -/
theorem wpList_app1g {W : World} {ok : Nat → Prop} (g : Nat) (hW : W.heap.size = g) (hgd : o.guard = none) (s x : Operand) (t e : TypeId) (z : Value) (bytes : Nat)
    (ho : o.op = .call { callee := .builtin .append, args := #[s, x], argTypes := #[t, t] })
    (ht : P.underlying t = some (.slice e)) (hinfo : (P.info? e).map (fun i => (i.zero, i.size, i.bytes)) = some (some z, 1, bytes)) (hz : z.cells.size = 1) (hb0 : 0 < bytes)
    (v : Value) (xs : List Value) (y : Value) (hs : a.eval s = v) (hx : a.eval x = .slice (some ⟨g, 0, none⟩) 1 1) (h1 : y.oneCell' = true)
    (HO : Own W ok e v xs) (hl : (xs.length + 1) * bytes ≤ 140737488355328)
    (h : ∀ v1 w1, Own w1 (fun k => v.ownBlock = some k ∨ W.heap.size ≤ k) e v1 (xs ++ [y]) → W.grownBy w1 v.ownBlock → wpList P ops Q rest (a.put o.dst v1) w1) :
    wpList P ops Q (o :: rest) a (W.alloc (.cells #[y] e)) := by
  subst hW
  exact wpList_app1 hgd s x t e z bytes ho ht hinfo hz hb0 v xs y hs hx h1 HO hl h
end
set_option maxHeartbeats 1600000 in
set_option maxRecDepth 1000000 in
theorem sstepsof_any (p : ByteArray) (w : World) (hp : p.size ≤ 1048576) : Calls Try.prog 31 #[.string p] w (OfPost p w) := by
  go_enter Try.func31, Try.ntmps31
  go_wp2_with fail
  generalize hW0 : w.alloc (.cells #[] 3) = W0
  have hO0 : Own W0 (fun j => j = w.heap.size) 3 (.slice (some ⟨w.heap.size, 0, none⟩) 0 0) [] := by
    rw [← hW0]
    exact ⟨World.ownsRow_made w #[] 0 (Nat.zero_le _) (by simp [maxLen]) rfl, fun k hk => by simp [Value.ownBlock] at hk; exact hk.symm⟩
  have hB0 : Below w.heap.size w W0 := by rw [← hW0]; exact below_of (World.grownBy_alloc w _ none)
  have hs0 : W0.heap.size = w.heap.size + 1 := by rw [← hW0]; simp
  clear hW0
  have HO0 := Lib.hid hO0
  have HB0 := Lib.hid hB0
  have HS0 := Lib.hid hs0
  clear hO0 hB0 hs0
  refine (read_any p W0 hp).mono ?_
  rintro e w1 ⟨hb, h⟩
  rcases h with ⟨hs, rfl⟩ | ⟨i, b0, b1, bs, hs, rfl, hc⟩
  · have hI : IParse p = none := by rw [← parse_eq]; exact hs
    have HF := Lib.hid (flat_none hI)
    have HV := Lib.hid (show (IParse p).isSome = false by rw [hI]; rfl)
    have HB := Lib.hid (fun o => hb.trans ((below_of (World.grownBy_alloc w1 o none)).mono hb.size))
    clear hs hb hI
    unfold zeroSix
    go_wp2_with fail
    go_ret2
    exact ⟨some ⟨w.heap.size, 0, none⟩, 0, by rw [HF.out, HV.out]; rfl, HB0.out.trans ((HB.out _).mono HB0.out.size), by
      rw [HF.out]
      exact (HO0.out.keep (fun j hj hl => (HB.out _).block j hl)).mono (fun j hj => by omega)⟩
  · obtain ⟨A, c, rfl, hI, hm, hba, hca⟩ := read_parts hb hs hc
    have HE := Lib.hid (fun o => each_any _ i b0 b1 (by omega) (Nat.le_refl _) (w1.alloc o) (fun j => j < w1.heap.size) A c (fun j hj => by simp; omega) (hca o))
    have HBa := Lib.hid hba
    have HV := Lib.hid (show (IParse p).isSome = true by rw [hI]; rfl)
    have HFl := Lib.hid (flat_some hI)
    have hle : (T.cons i b0 b1 .nil).flat.length ≤ 80 := Nat.le_trans (flat_count _) hm
    clear hs hc hb hba hca hI
    have HP := Lib.hid (show ∀ e w', (∃ A c, e = Ending.returned (.tuple #[.slice A (ats (Flat p)).length c, .bool (IParse p).isSome]) ∧ Below w.heap.size w w' ∧ Own w' (fun j => w.heap.size ≤ j) 3 (.slice A (ats (Flat p)).length c) (ints (ats (Flat p)))) → OfPost p w e w' from fun _ _ h => h)
    rw [HFl.out] at HP
    have HF := Lib.hid (show ats (T.cons i b0 b1 .nil).flat = ats ((T.cons i b0 b1 .nil).flat.take (T.cons i b0 b1 .nil).flat.length) by rw [List.take_length])
    generalize (T.cons i b0 b1 .nil).flat = L at *
    go_wp2_with fail
    refine (HE.out _).mono ?_
    rintro e w3 ⟨v, xs, rfl, hb3, hO3, hN3⟩
    have hB3 := (HBa.out (.cells #[.int .u8 i.kind.toNat, .int .i64 i.at_, .int .i64 i.end_, .string i.vars, .slice A i.nb c, .string i.scope] 46)).trans (hb3.mono (HBa.out _).size)
    have hO0 := HO0.out.keep (fun j hj hl => hB3.block j hl)
    obtain ⟨B, d, rfl⟩ := hO3.form
    have hs3 := hB3.size
    have X4 := Lib.hid (HB0.out.trans (hB3.mono HB0.out.size))
    have X5 := Lib.hid hO3
    have X6 := Lib.hid hN3
    have X7 := Lib.hid hO0
    have X8 := Lib.hid hs3
    have X9 := Lib.hid (HBa.out (.cells #[.int .u8 i.kind.toNat, .int .i64 i.at_, .int .i64 i.end_, .string i.vars, .slice A i.nb c, .string i.scope] 46)).size
    clear hb3 hB3 hO3 hN3 hO0 hs3
    go_wp2_with fail
    go_loopw [4, 21] (fun a i' wr => AtsRel L w.heap.size w3 a i' wr) (fun _ i' _ => L.length - (intOf i').toNat)
    case atStart => exact ⟨0, Nat.zero_le _, rfl, X7.out.mono (fun j hj => .inl hj), Kp.refl _ _⟩
    case round =>
      obtain ⟨k, hk, rfl, hOr, hK⟩ := hrel
      obtain ⟨ao, rfl⟩ : ∃ ao : Value, ao = u4 := ⟨_, rfl⟩
      obtain ⟨Aa, ca, rfl⟩ := hOr.form
      by_cases hlt : k < L.length
      · obtain ⟨A2, n2, c2, h6⟩ := X6.out.at hlt
        obtain ⟨gb, rfl⟩ : ∃ gb, B = some ⟨gb, 0, none⟩ := by
          obtain ⟨g, c', hv⟩ := X5.out.some (by omega)
          injection hv with hv1 hv2 hv3
          exact ⟨g, hv1⟩
        have hgb : ¬ gb = w.heap.size := by
          have h1 := X5.out.let_ gb rfl
          have h2 := X9.out
          have h3 := HS0.out
          simp at h1 h2
          omega
        have hsix := six_of X5.out.row hlt h6
        have s0 := kp_cell hK hgb hsix.c0
        have s1 := kp_cell hK hgb hsix.c1
        have s2 := kp_cell hK hgb hsix.c2
        have s3 := kp_cell hK hgb hsix.c3
        have s4 := kp_cell hK hgb hsix.c4
        have s5 := kp_cell hK hgb hsix.c5
        have hkk : k ≤ 80 := by omega
        have hOr2 := fun o => hOr.keep (fun j hj hl => (World.grownBy_alloc wr o none).block j hl (by simp))
        have HOr := Lib.hid hOr
        have HOr2 := Lib.hid hOr2
        have HK := Lib.hid hK
        have hal := ats_take_length L k
        have hbd : ((ints (ats (L.take k))).length + 1) * 8 ≤ 140737488355328 := by omega
        have HW := Lib.hid (fun o => below_of (World.grownBy_alloc wr o none))
        clear hsix hOr hOr2 hK h6 hgb
        go_wp2_with (at_builtin; refine wpList_app1g (wr.heap.size + 1) (by simp) rfl _ _ 32 3 (.int .i64 0) 8 rfl Try.underlying32 info3 rfl (by decide) (.slice Aa (ints (ats (L.take k))).length ca) (ints (ats (L.take k))) (.int .i64 (L[k]).at_) rfl rfl rfl (HOr2.out _) hbd ?_)
        intro v1 w4 ho4 hg4
        have HR := Lib.hid (ats_on HOr.out HK.out hlt (HW.out _) (Nat.le_succ _) ho4 hg4)
        clear ho4 hg4
        go_wp2_with fail
        go_roundw
        case rel => exact ⟨k + 1, hlt, by go_num, HR.out.1, HR.out.2⟩
        case measure => simp [intOf]; omega
      · have hkn : k = L.length := by omega
        subst hkn
        have HOr := Lib.hid hOr
        have HK := Lib.hid hK
        clear hOr hK
        rw [HF.out] at HP
        rw [show (ints (ats (L.take L.length))).length = (ats (L.take L.length)).length from ints_length _] at HOr ⊢
        go_wp2_with fail
        go_ret2
        have hz := HS0.out
        have hz2 := X8.out
        have hz3 := X4.out.size
        refine HP.out _ _ ⟨Aa, ca, by rw [HV.out]; rfl, ?_, HOr.out.mono (fun j hj => by omega)⟩
        exact X4.out.trans ⟨HK.out.os, HK.out.tape, HK.out.output, HK.out.size, fun j hj => HK.out.block j (by omega) (by omega)⟩

theorem Own.below {w w' : World} {ok : Nat → Prop} {e : TypeId} {v : Value} {xs : List Value} (h : Own w ok e v xs) (hb : Below w.heap.size w w') : Own w' ok e v xs := h.keep (fun j _ hl => hb.block j hl)
set_option maxHeartbeats 1600000 in
theorem law_stepsof (p : ByteArray) (w : World) : Calls Try.prog 12 #[.string p] w fun e w' => e = .returned (.bool true) ∧ Below w.heap.size w w' := by
  by_cases h : 1048576 < p.size
  · have g : decide ((1048576 : Int) < (p.size : Int)) = true := by simp; omega
    go_enter Try.func12, Try.ntmps12
    go_wp2_with fail
    go_ret
    exact ⟨rfl, Below.refl _ _⟩
  · have g : decide ((1048576 : Int) < (p.size : Int)) = false := by simp; omega
    have hp : p.size ≤ 1048576 := by omega
    have hl80 : (ats (Flat p)).length ≤ 80 := by rw [ats_length]; exact flat_le p
    have HS := Lib.hid (fun W => sstepsof_any p W hp)
    have HI := Lib.hid (fun W => istepsof_any p W hp)
    clear h
    unfold OfPost at HS HI
    generalize ats (Flat p) = l at *
    generalize (IParse p).isSome = b at *
    go_enter Try.func12, Try.ntmps12
    go_wp2_with fail
    refine (HS.out _).mono ?_
    rintro e w1 ⟨A1, c1, rfl, hb1, ho1⟩
    have B1 := Lib.hid hb1
    have O1 := Lib.hid ho1.bound
    clear hb1 ho1
    go_wp2_with fail
    refine (HI.out _).mono ?_
    rintro e w2 ⟨A2, c2, rfl, hb2, ho2⟩
    have B2 := Lib.hid (B1.out.trans (hb2.mono B1.out.size))
    have O1b := Lib.hid (O1.out.below hb2)
    have O2 := Lib.hid ho2
    clear hb2 ho2
    go_wp2_with fail
    refine (eqints_same _ _ _ A2 A1 c2 c1 l O2.out O1b.out).mono ?_
    rintro e w3 ⟨rfl, hb3⟩
    have hbb : (b != b) = false := by simp
    have O1c := Lib.hid (O1b.out.below hb3)
    have O2b := Lib.hid (O2.out.below hb3)
    have B3 := Lib.hid (B2.out.trans (hb3.mono B2.out.size))
    have hW1 := Lib.hid B1.out.size
    clear hb3
    go_wp2_with fail
    refine (markints_any _ _ A2 c2 l 1 O2b.out (by omega) (by omega) (by omega)).mono ?_
    rintro e w4 ⟨rfl, ho4, hk4⟩
    have O2c := Lib.hid ho4
    have O1d := Lib.hid (O1c.out.keep (fun j hj hl => hk4.block j hl (fun hs => by have := O2b.out.let_ j hs; omega)))
    have B4 := Lib.hid (B3.out.trans ⟨hk4.os, hk4.tape, hk4.output, hk4.size, fun j hj => hk4.block j (by have := B3.out.size; omega) (fun hs => by have := O2b.out.let_ j hs; have := hW1.out; omega)⟩)
    clear ho4 hk4
    go_wp2_with fail
    refine (heldints_any _ _ A2 c2 l.length 1 O2c.out (by omega) (by omega) (by omega)).mono ?_
    rintro e w5 ⟨rfl, rfl⟩
    have g1 : decide (1 + (l.length : Int) < 0) = false := by simp; omega
    have g2 : ((1 + (l.length : Int)) != (1 + (l.length : Int))) = false := by simp
    go_wp2_with fail
    refine (HI.out _).mono ?_
    rintro e w6 ⟨A3, c3, rfl, hb6, ho6⟩
    have B6 := Lib.hid (B4.out.trans (hb6.mono B4.out.size))
    have O1e := Lib.hid (O1d.out.below hb6)
    have O2d := Lib.hid (O2c.out.below hb6)
    have O3 := Lib.hid ho6
    clear hb6 ho6
    go_wp2_with fail
    refine (eqints_same _ _ _ A3 A1 c3 c1 l O3.out O1e.out).mono ?_
    rintro e w7 ⟨rfl, hb7⟩
    have O2e := Lib.hid (O2d.out.below hb7)
    have B7 := Lib.hid (B6.out.trans (hb7.mono B6.out.size))
    clear hb7
    go_wp2_with fail
    refine (heldints_any _ _ A2 c2 l.length 1 O2e.out (by omega) (by omega) (by omega)).mono ?_
    rintro e w8 ⟨rfl, rfl⟩
    go_wp2_with fail
    go_ret
    exact ⟨rfl, B7.out⟩
end Go.Proofs.Ytopgkaekbbaglaa
