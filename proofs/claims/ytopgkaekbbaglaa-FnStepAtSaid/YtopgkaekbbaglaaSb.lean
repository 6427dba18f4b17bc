/- Contracts of the reference's reader: a variable; the variables of a scope. -/
import Derived.Test.YtopgkaekbbaglaaSa
import Derived.Test.YtopgkaekbbaglaaIl
namespace Go.Proofs.Ytopgkaekbbaglaa
open Go.RowKit Pl

theorem find_neg {l : List UInt8} {c : UInt8} : decide (Lib.indexByte l c < 0) = !l.contains c := by
  rw [← indexByte_has]
  by_cases h : 0 ≤ Lib.indexByte l c
  · simp [h]
  · simp [h]; omega

set_option maxHeartbeats 400000 in
theorem variable_any (w : World) (b : Nat) (p f : ByteArray) (s : RS) (hr : SRd w b p s) (hs : p.size ≤ 1048576) (hf : f.size ≤ 9223372036854775807) :
    Calls Try.prog 64 #[.pointer (some ⟨b, 0, none⟩), .string f] w fun e w' => e = .returned (.string (svar p f s).1) ∧ SRd w' b p (svar p f s).2 ∧ w.grownBy w' (some b) := by
  have h0 := hr.c0
  have h1 := hr.c1
  have hf1 := hr.fz 1
  have h2 := hr.c2
  have hf2 := hr.fz 2
  by_cases hn : s.at_ < p.size
  · have g1 : decide (p.size ≤ s.at_) = false := by simp; omega
    by_cases hc : has f (bAt p s.at_) = true
    · have g2 : decide (Lib.indexByte f.data.toList (p[s.at_]'hn) < 0) = false := by rw [find_neg, bAt_get hn, show f.data.toList.contains (bAt p s.at_) = true from hc]; rfl
      have HE := Lib.hid (show svar p f s = (sub1 p s.at_, ⟨s.at_ + 1, s.bad, s.dep⟩) by unfold svar; rw [if_pos (by simp [hn, hc])]; rfl)
      clear hc
      go_enter Try.func64, Try.ntmps64
      go_wp2_with fail
      go_quiet ((go_at_call 44; exact Calls.quiet_of_same (find_any f (p[s.at_]'hn) _ rfl _ hf)))
      go_wp2_with fail
      generalize hW : (w.drewN nq).setCell ⟨b, 1, none⟩ (Value.int .i64 ((s.at_ : Int) + 1)) = W1
      have hr1 : SRd W1 b p ⟨s.at_ + 1, s.bad, s.dep⟩ := by rw [← hW]; exact (hr.drewN nq).setAt (s.at_ + 1)
      have g0 := hr1.c0
      have g1' := hr1.c1
      have hG : w.grownBy W1 (some b) := by rw [← hW]; exact World.grownBy.trans (grown_drewN w _ _) (grown_set _ _ _ _)
      have HW := Lib.hid hG
      clear hW h0 h1 hf1 h2 hf2 g1 g2 hG
      go_quiet (fail)
      go_wp2_with fail
      go_ret
      refine ⟨?_, by rw [HE.out]; exact hr1.drewN _, World.grownBy.trans HW.out (grown_drewN W1 _ _)⟩
      rw [HE.out]
      simp [sub1]
    · have g2 : decide (Lib.indexByte f.data.toList (p[s.at_]'hn) < 0) = true := by rw [find_neg, bAt_get hn, show f.data.toList.contains (bAt p s.at_) = false from eq_false_of_ne_true hc]; rfl
      have HE := Lib.hid (show svar p f s = (letA, ⟨s.at_, true, s.dep⟩) by unfold svar; rw [if_neg (by simp [hc])]; simp [badIf])
      clear hc
      go_enter Try.func64, Try.ntmps64
      go_wp2_with fail
      go_quiet ((go_at_call 44; exact Calls.quiet_of_same (find_any f (p[s.at_]'hn) _ rfl _ hf)))
      go_wp2_with fail
      go_ret
      exact ⟨by rw [HE.out]; rfl, by rw [HE.out]; exact (hr.drewN _).setBad true, World.grownBy.trans (grown_drewN w _ _) (grown_set _ _ _ _)⟩
  · have g1 : decide (p.size ≤ s.at_) = true := by simp; omega
    have HE := Lib.hid (show svar p f s = (letA, ⟨s.at_, true, s.dep⟩) by unfold svar; rw [if_neg (by simp [hn])]; simp [badIf])
    go_enter Try.func64, Try.ntmps64
    go_wp2_with fail
    go_quiet (fail)
    go_wp2_with fail
    go_ret
    exact ⟨by rw [HE.out]; rfl, by rw [HE.out]; exact (hr.drewN _).setBad true, World.grownBy.trans (grown_drewN w _ _) (grown_set _ _ _ _)⟩

/-! ### vars -/
theorem conv_byte (W : World) (x : Int) (g : Nat) (hg : W.heap.size = g) :
    (convert 37 9 (.slice (some ⟨g, 0, none⟩) 1 1)).run Try.prog (W.alloc (.cells #[.int .u8 x] 5)) = .ok (.string (strOfNums [x])) (W.alloc (.cells #[.int .u8 x] 5)) := by
  subst hg
  refine run_convert_bytes_arg (P := Try.prog) _ 37 5 Try.underlying37 Try.underlying5 W.heap.size 0 1 1 [x] rfl (fun i hi => ?_) 9 Try.underlying9
  obtain rfl : i = 0 := by omega
  simp
theorem nums_byte {p : ByteArray} {n : Nat} (h : n < p.size) : strOfNums [((p[n]'h).toNat : Int)] = sub1 p n := by
  apply ByteArray.ext
  apply Array.ext'
  rw [sub1_data h, bAt_get h]
  simp [strOfNums]

theorem svarsL_step {p ar acc : ByteArray} {s : RS} (hl : isLet p s.at_ = true) : svarsL p ar (p.size - s.at_) acc s = svarsL p ar (p.size - (s.at_ + 1)) (acc ++ sub1 p s.at_) ⟨s.at_ + 1, s.bad || has (ar ++ acc) (bAt p s.at_), s.dep⟩ := by
  have hlt := isLet_lt hl
  obtain ⟨k, hk⟩ : ∃ k, p.size - s.at_ = k + 1 := ⟨p.size - s.at_ - 1, by omega⟩
  rw [hk, show p.size - (s.at_ + 1) = k by omega, svarsL, if_pos hl]
  rfl
theorem svarsL_end {p ar acc : ByteArray} {s : RS} (hl : isLet p s.at_ = false) : svarsL p ar (p.size - s.at_) acc s = (acc, s) := by
  cases hk : p.size - s.at_ with
  | zero => rfl
  | succ k => rw [svarsL, if_neg (by simp [hl])]
def VarsRel (p ar : ByteArray) (b : Nat) (s0 : RS) (w : World) (k : Nat) (v : Value) (wr : World) : Prop :=
  ∃ acc s, v = .string acc ∧ svarsL p ar (p.size - s0.at_) ByteArray.empty s0 = svarsL p ar (p.size - s.at_) acc s ∧ SRd wr b p s ∧ w.grownBy wr (some b) ∧ s.at_ ≤ p.size ∧ acc.size + s0.at_ ≤ s.at_ ∧ k = p.size - s.at_ ∧ s.dep = s0.dep

theorem vars_eq {p ar acc : ByteArray} {s t : RS} (h : svarsL p ar (p.size - s.at_) ByteArray.empty s = svarsL p ar (p.size - t.at_) acc t) (hl : isLet p t.at_ = false) : svars p ar s = (acc, badIf (decide (acc.size = 0)) t) := by
  unfold svars
  rw [h, svarsL_end hl]
theorem vars_fst {p ar acc : ByteArray} {s t : RS} (h : svarsL p ar (p.size - s.at_) ByteArray.empty s = svarsL p ar (p.size - t.at_) acc t) (hl : isLet p t.at_ = false) : (svars p ar s).1 = acc := by
  rw [vars_eq h hl]
theorem vars_srd {p ar acc : ByteArray} {s t : RS} (h : svarsL p ar (p.size - s.at_) ByteArray.empty s = svarsL p ar (p.size - t.at_) acc t) (hl : isLet p t.at_ = false)
    {w : World} {b n : Nat} (hr : SRd w b p t) (x : Bool) (hx : x = (t.bad || acc.toList.isEmpty)) : SRd ((w.drewN n).setCell ⟨b, 2, none⟩ (.bool x)) b p (svars p ar s).2 := by
  rw [vars_eq h hl, hx, empty_size]
  exact (hr.drewN n).setBad _

set_option maxHeartbeats 800000 in
set_option maxRecDepth 1000000 in
theorem vars_any (w : World) (b : Nat) (p ar : ByteArray) (s : RS) (hr : SRd w b p s) (hs : p.size ≤ 80) (hat : s.at_ ≤ p.size) (har : ar.size ≤ 80) :
    Calls Try.prog 67 #[.pointer (some ⟨b, 0, none⟩), .string ar] w fun e w' => e = .returned (.string (svars p ar s).1) ∧ SRd w' b p (svars p ar s).2 ∧ w.grownBy w' (some b) := by
  have hcv := conv_byte
  go_enter Try.func67, Try.ntmps67
  go_wp2_with fail
  go_loopg [5] (p.size - s.at_) (fun k v wr => VarsRel p ar b s w k v wr)
  case atStart => exact ⟨ByteArray.empty, s, rfl, rfl, hr, World.grownBy.refl _ _, hat, by simp, rfl, rfl⟩
  case round =>
    obtain ⟨acc, t, rfl, he, hrt, hg, ht, hacc, rfl, hdep⟩ := hrel
    have HE := Lib.hid he
    have HG := Lib.hid hg
    have HD := Lib.hid hdep
    clear he hg hdep hr
    have h0 := hrt.c0
    have h1 := hrt.c1
    have h2 := hrt.c2
    have hf1 := hrt.fz 1
    have hf2 := hrt.fz 2
    by_cases hl : isLet p t.at_ = true
    · have hlt := isLet_lt hl
      have g1 : decide (t.at_ < p.size) = true := by simpa using hlt
      have hlo := (isLet_let hl).1
      have hhi := (isLet_let hl).2
      have hlo' : (97 : Int) ≤ ((p[t.at_]'hlt).toNat : Int) := by rw [bAt_get hlt]; have := UInt8.le_iff_toNat_le.1 hlo; simp at this; omega
      have hhi' : ((p[t.at_]'hlt).toNat : Int) ≤ 102 := by rw [bAt_get hlt]; have := UInt8.le_iff_toNat_le.1 hhi; simp at this; omega
      have HL := Lib.hid hl
      clear hl hlo hhi
      go_wp2_with fail
      go_quiet ((go_at_call 75; exact Calls.quiet_of_same (l1In_yes _ _ _ _ hlo' hhi')))
      go_wp2_with fail
      go_quiet (fail)
      have hz1 : acc.size ≤ 80 := by omega
      have hz2 : ∀ x, (strOfNums [x]).size = 1 := fun x => strOfNums_size [x]
      have hal : ∀ (W : World) (o : Obj), W.cell? ⟨b, 1, none⟩ = some (.int .i64 t.at_) → (W.alloc o).cell? ⟨b, 1, none⟩ = some (.int .i64 t.at_) := fun W o h => (World.grownBy_alloc W o none).cell h (by simp)
      have hfl : ∀ (W : World) (o : Obj), W.cell? ⟨b, 1, none⟩ = some (.int .i64 t.at_) → (W.alloc o).frozen? ⟨b, 1, none⟩ = W.frozen? ⟨b, 1, none⟩ := fun W o h => World.frozen?_of_block ((World.grownBy_alloc W o none).block _ (World.block_lt_of_cell? W _ h) (by simp))
      by_cases hbad : t.bad = true
      · rw [hbad] at h2
        have HB := Lib.hid hbad
        clear hbad
        go_wp2_with fail
        go_roundg (p.size - (t.at_ + 1))
        case measure => omega
        case rel =>
          refine ⟨acc ++ sub1 p t.at_, ⟨t.at_ + 1, true, t.dep⟩, by rw [nums_byte hlt], ?_, ((hrt.setBad true).grown (World.grownBy_alloc _ _ none) (by simp)).setAt (t.at_ + 1), ?_, hlt, ?_, rfl, HD.out⟩
          · rw [HE.out, svarsL_step HL.out, HB.out]; rfl
          · have a := World.grownBy.trans HG.out (grown_set wr b 2 (.bool true))
            have a2 := World.grownBy.trans a (World.grownBy_alloc (wr.setCell ⟨b, 2, none⟩ (.bool true)) (.cells #[.int .u8 ((p[t.at_]'hlt).toNat : Int)] 5) (some b))
            have a3 := World.grownBy.trans a2 (grown_set _ b 1 (.int .i64 ((t.at_ + 1 : Nat) : Int)))
            exact ⟨a3.os, a3.tape, a3.output, a3.size, a3.block⟩
          · rw [ByteArray.size_append, sub1_size hlt]
            show acc.size + 1 + s.at_ ≤ t.at_ + 1
            omega
      · have hbad' : t.bad = false := by simpa using hbad
        rw [hbad'] at h2
        have HB := Lib.hid hbad'
        clear hbad hbad'
        have hz3 : ar.size + acc.size ≤ 160 := by omega
        go_wp2_with fail
        refine (find_any (ar ++ acc) (p[t.at_]'hlt) _ rfl _ (by rw [ByteArray.size_append]; omega)).mono ?_
        rintro e w2 ⟨rfl, rfl⟩
        go_wp2_with fail
        go_roundg (p.size - (t.at_ + 1))
        case measure => omega
        case rel =>
          have hhas : decide (0 ≤ Lib.indexByte (ar ++ acc).data.toList (p[t.at_]'hlt)) = has (ar ++ acc) (bAt p t.at_) := by rw [indexByte_has, bAt_get hlt]; rfl
          refine ⟨acc ++ sub1 p t.at_, ⟨t.at_ + 1, has (ar ++ acc) (bAt p t.at_), t.dep⟩, by rw [nums_byte hlt], ?_, ?_, ?_, hlt, ?_, rfl, HD.out⟩
          · rw [HE.out, svarsL_step HL.out, HB.out]; rfl
          · rw [← hhas]
            exact ((hrt.setBad _).grown (World.grownBy_alloc _ _ none) (by simp)).setAt (t.at_ + 1)
          · have a := World.grownBy.trans HG.out (grown_set wr b 2 (.bool (decide (0 ≤ Lib.indexByte (ar ++ acc).data.toList (p[t.at_]'hlt)))))
            have a2 := World.grownBy.trans a (World.grownBy_alloc _ (.cells #[.int .u8 ((p[t.at_]'hlt).toNat : Int)] 5) (some b))
            have a3 := World.grownBy.trans a2 (grown_set _ b 1 (.int .i64 ((t.at_ + 1 : Nat) : Int)))
            exact ⟨a3.os, a3.tape, a3.output, a3.size, a3.block⟩
          · rw [ByteArray.size_append, sub1_size hlt]
            show acc.size + 1 + s.at_ ≤ t.at_ + 1
            omega
    · have hl' : isLet p t.at_ = false := by simpa using hl
      have HL := Lib.hid hl'
      have hez : (acc.toList.isEmpty) = decide (acc.size = 0) := empty_size
      by_cases hlt : t.at_ < p.size
      · have g1 : decide (t.at_ < p.size) = true := by simpa using hlt
        have hor : ((p[t.at_]'hlt).toNat : Int) < 97 ∨ 102 < ((p[t.at_]'hlt).toNat : Int) := by
          rw [bAt_get hlt]
          by_cases h97 : 97 ≤ bAt p t.at_
          · right
            have h102 : ¬ (bAt p t.at_ ≤ 102) := fun h => hl (by simp [isLet, hlt, h97, h])
            have := UInt8.lt_iff_toNat_lt.1 (UInt8.not_le.1 h102)
            simp at this; omega
          · left
            have := UInt8.lt_iff_toNat_lt.1 (UInt8.not_le.1 h97)
            simp at this; omega
        have hb0 : (0 : Int) ≤ ((p[t.at_]'hlt).toNat : Int) := by omega
        have hb1 : ((p[t.at_]'hlt).toNat : Int) ≤ 255 := by have := (p[t.at_]'hlt).toNat_lt; omega
        have HO := Lib.hid hor
        clear hl hl' hor
        have HZ := Lib.hid hez
        clear hez
        cases hb : t.bad
        all_goals
          rw [hb] at h2
          have HB := Lib.hid hb
          clear hb
          go_wp2_with fail
          go_quiet ((go_at_call 75; exact Calls.quiet_of_same (l1In_no _ _ _ _ HO.out)))
          go_wp2_with fail
          go_ret
          exact ⟨congrArg (fun x => Ending.returned (.string x)) (vars_fst HE.out HL.out).symm, vars_srd HE.out HL.out hrt _ (by rw [HB.out]; rfl), World.grownBy.trans HG.out (World.grownBy.trans (grown_drewN wr _ _) (grown_set _ _ _ _))⟩
      · have g1 : decide (t.at_ < p.size) = false := by simpa using hlt
        have HZ := Lib.hid hez
        clear hl hl' hez
        cases hb : t.bad
        all_goals
          rw [hb] at h2
          have HB := Lib.hid hb
          clear hb
          go_wp2_with fail
          go_quiet (fail)
          go_wp2_with fail
          go_ret
          exact ⟨congrArg (fun x => Ending.returned (.string x)) (vars_fst HE.out HL.out).symm, vars_srd HE.out HL.out hrt _ (by rw [HB.out]; rfl), World.grownBy.trans HG.out (World.grownBy.trans (grown_drewN wr _ _) (grown_set _ _ _ _))⟩
end Go.Proofs.Ytopgkaekbbaglaa
