/- NeedOf, of the program and of the reference; the laws InScope, StepAt, NeedOf. -/
import Derived.Test.YtopgkaekbbaglaaFc
namespace Go.Proofs.Ytopgkaekbbaglaa
open Go.RowKit Pl

def needOf (p : ByteArray) (a : Int) : ByteArray := match FindAt p a with
  | none => ⟨#[]⟩
  | some i => need i
theorem needOf_some {p : ByteArray} {a : Int} {i : Inf} (h : FindAt p a = some i) : needOf p a = need i := by unfold needOf; rw [h]
theorem needOf_none {p : ByteArray} {a : Int} (h : FindAt p a = none) : needOf p a = ⟨#[]⟩ := by unfold needOf; rw [h]
theorem empty_of {s : ByteArray} (h : s.toList.isEmpty = true) : s = ⟨#[]⟩ := by
  rw [empty_size] at h
  have h0 : s.size = 0 := by simpa using h
  apply ByteArray.ext
  exact Array.eq_empty_of_size_eq_zero h0
theorem empty_is {s : ByteArray} (h : s = ⟨#[]⟩) : s.toList.isEmpty = true := by rw [h, empty_size]; rfl
/-- there is something to need -/
def needs (p : ByteArray) (a : Int) : Bool := !(needOf p a).toList.isEmpty
theorem needs_none {p : ByteArray} {a : Int} (h : FindAt p a = none) : needs p a = false := by unfold needs; rw [needOf_none h, empty_is rfl]; rfl
theorem needs_some {p : ByteArray} {a : Int} {i : Inf} {b : Bool} (h : FindAt p a = some i) (hb : (need i).toList.isEmpty = b) : needs p a = !b := by unfold needs; rw [needOf_some h, hb]
set_option maxHeartbeats 800000 in
set_option maxRecDepth 1000000 in
theorem ineedof_any (p : ByteArray) (a : Int) (w : World) (hp : p.size ≤ 1048576) : Calls Try.prog 37 #[.string p, .int .i64 a] w fun e w' => e = .returned (.tuple #[.string (needOf p a), .bool (needs p a)]) ∧ Below w.heap.size w w' := by
  go_enter Try.func37, Try.ntmps37
  go_wp2_with fail
  refine (ifind_any p a w hp).mono ?_
  rintro e w1 ⟨hb, h⟩
  have HB := Lib.hid hb
  clear hb
  rcases h with ⟨hs, rfl⟩ | ⟨i, g, A, n, c, hs, rfl, hh⟩
  · have HS := Lib.hid hs
    clear hs
    go_wp2_with fail
    go_ret2
    exact ⟨ret_sb (needOf_none HS.out).symm (needs_none HS.out).symm, HB.out⟩
  · have hg := find_good hs
    have HN := Lib.hid (fun (k : Nat) => needs_any i (w1.drewN k) g A n c hh hg.two hg.one)
    have HS := Lib.hid hs
    clear hs hh hg
    go_wp2_with fail
    refine (HN.out 0).mono ?_
    rintro e w2 ⟨rfl, k, rfl⟩
    cases hem : (need i).toList.isEmpty
    · have HE := Lib.hid (needs_some HS.out hem)
      go_wp2_with fail
      refine (HN.out k).mono ?_
      rintro e w2 ⟨rfl, k2, rfl⟩
      clear hem
      go_wp2_with fail
      go_ret2
      exact ⟨ret_sb (needOf_some HS.out).symm HE.out.symm, HB.out.trans (below_of (grown_drewN w1 _ none) |>.mono HB.out.size)⟩
    · have HE := Lib.hid (needs_some HS.out hem)
      have HM := Lib.hid (empty_of hem)
      go_wp2_with fail
      go_ret2
      exact ⟨ret_sb (by rw [needOf_some HS.out, HM.out]) HE.out.symm, HB.out.trans (below_of (grown_drewN w1 k none) |>.mono HB.out.size)⟩
set_option maxHeartbeats 800000 in
set_option maxRecDepth 1000000 in
theorem sneedof_any (p : ByteArray) (a : Int) (w : World) (hp : p.size ≤ 1048576) : Calls Try.prog 36 #[.string p, .int .i64 a] w fun e w' => e = .returned (.tuple #[.string (needOf p a), .bool (needs p a)]) ∧ Below w.heap.size w w' := by
  go_enter Try.func36, Try.ntmps36
  go_wp2_with fail
  refine (at_any p a w hp).mono ?_
  rintro e w1 ⟨hb, h⟩
  have HA := Lib.hid (fun o => hb.trans ((below_of (World.grownBy_alloc w1 o none)).mono hb.size))
  clear hb
  rcases h with ⟨hs, rfl⟩ | ⟨i, A, n, c, hs, rfl⟩
  · have HS := Lib.hid hs
    clear hs
    unfold zeroSix
    go_wp2_with fail
    go_ret2
    exact ⟨ret_sb (needOf_none HS.out).symm (needs_none HS.out).symm, HA.out _⟩
  · have hg := find_good hs
    have HN := Lib.hid (fun (W : World) => l4need_any i (.slice A n c) A n c rfl W hg.two)
    have HS := Lib.hid hs
    clear hs hg
    go_wp2_with fail
    have hN1 : SNode (w1.alloc (.cells #[.int .u8 i.kind.toNat, .int .i64 i.at_, .int .i64 i.end_, .string i.vars, .slice A n c, .string i.scope] 46)) w1.heap.size i.kind i.at_ i.end_ i.vars (.slice A n c) i.scope := heap_alloc_new w1 _
    have hB1 := HA.out (.cells #[.int .u8 i.kind.toNat, .int .i64 i.at_, .int .i64 i.end_, .string i.vars, .slice A n c, .string i.scope] 46)
    refine (HN.out _).mono ?_
    rintro e w2 ⟨rfl, hb2⟩
    have hN2 := hN1.below hb2
    have hB2 := hB1.trans (hb2.mono hB1.size)
    have c0 := hN2.c0
    have c1 := hN2.c1
    have c2 := hN2.c2
    have c3 := hN2.c3
    have c4 := hN2.c4
    have c5 := hN2.c5
    have HB2 := Lib.hid hB2
    clear hN1 hB1 hb2 hN2 hB2
    cases hem : (need i).toList.isEmpty
    · have HE := Lib.hid (needs_some HS.out hem)
      go_wp2_with fail
      refine (HN.out _).mono ?_
      rintro e w3 ⟨rfl, hb3⟩
      have HB3 := Lib.hid (HB2.out.trans (hb3.mono HB2.out.size))
      clear hem hb3
      go_wp2_with fail
      go_ret2
      exact ⟨ret_sb (needOf_some HS.out).symm HE.out.symm, HB3.out⟩
    · have HE := Lib.hid (needs_some HS.out hem)
      have HM := Lib.hid (empty_of hem)
      go_wp2_with fail
      go_ret2
      exact ⟨ret_sb (by rw [needOf_some HS.out, HM.out]) HE.out.symm, HB2.out⟩

set_option maxHeartbeats 800000 in
theorem law_inscope (p : ByteArray) (a : Int) (w : World) : Calls Try.prog 10 #[.string p, .int .i64 a] w fun e w' => e = .returned (.bool true) ∧ Below w.heap.size w w' := by
  by_cases h : 1048576 < p.size
  · have g : decide ((1048576 : Int) < (p.size : Int)) = true := by simp; omega
    go_enter Try.func10, Try.ntmps10
    go_wp2_with fail
    go_ret
    exact ⟨rfl, Below.refl _ _⟩
  · have g : decide ((1048576 : Int) < (p.size : Int)) = false := by simp; omega
    have hp : p.size ≤ 1048576 := by omega
    clear h
    go_enter Try.func10, Try.ntmps10
    go_wp2_with fail
    refine (sscope_any p a w hp).mono ?_
    rintro e w1 ⟨rfl, hb1⟩
    go_wp2_with fail
    refine (iscope_any p a w1 hp).mono ?_
    rintro e w2 ⟨rfl, hb2⟩
    have HB := Lib.hid (hb1.trans (hb2.mono hb1.size))
    clear hb1 hb2
    generalize scopeOf p a = s at *
    have hne : (s.toList != s.toList) = false := by simp
    generalize (FindAt p a).isSome = b at *
    cases b
    all_goals
      go_wp2_with fail
      go_ret
      exact ⟨rfl, HB.out⟩

set_option maxHeartbeats 800000 in
theorem law_stepat (p : ByteArray) (a : Int) (w : World) : Calls Try.prog 11 #[.string p, .int .i64 a] w fun e w' => e = .returned (.bool true) ∧ Below w.heap.size w w' := by
  by_cases h : 1048576 < p.size
  · have g : decide ((1048576 : Int) < (p.size : Int)) = true := by simp; omega
    go_enter Try.func11, Try.ntmps11
    go_wp2_with fail
    go_ret
    exact ⟨rfl, Below.refl _ _⟩
  · have g : decide ((1048576 : Int) < (p.size : Int)) = false := by simp; omega
    have hp : p.size ≤ 1048576 := by omega
    clear h
    go_enter Try.func11, Try.ntmps11
    go_wp2_with fail
    refine (sstepat_any p a w hp).mono ?_
    rintro e w1 ⟨rfl, hb1⟩
    go_wp2_with fail
    refine (istepat_any p a w1 hp).mono ?_
    rintro e w2 ⟨rfl, hb2⟩
    have HB := Lib.hid (hb1.trans (hb2.mono hb1.size))
    clear hb1 hb2
    generalize stepOf p a = s at *
    have hne : (s.toList != s.toList) = false := by simp
    generalize (FindAt p a).isSome = b at *
    cases b
    all_goals
      go_wp2_with fail
      go_ret
      exact ⟨rfl, HB.out⟩

set_option maxHeartbeats 800000 in
theorem law_needof (p : ByteArray) (a : Int) (w : World) : Calls Try.prog 13 #[.string p, .int .i64 a] w fun e w' => e = .returned (.bool true) ∧ Below w.heap.size w w' := by
  by_cases h : 1048576 < p.size
  · have g : decide ((1048576 : Int) < (p.size : Int)) = true := by simp; omega
    go_enter Try.func13, Try.ntmps13
    go_wp2_with fail
    go_ret
    exact ⟨rfl, Below.refl _ _⟩
  · have g : decide ((1048576 : Int) < (p.size : Int)) = false := by simp; omega
    have hp : p.size ≤ 1048576 := by omega
    clear h
    go_enter Try.func13, Try.ntmps13
    go_wp2_with fail
    refine (sneedof_any p a w hp).mono ?_
    rintro e w1 ⟨rfl, hb1⟩
    go_wp2_with fail
    refine (ineedof_any p a w1 hp).mono ?_
    rintro e w2 ⟨rfl, hb2⟩
    have HB := Lib.hid (hb1.trans (hb2.mono hb1.size))
    clear hb1 hb2
    generalize needOf p a = s at *
    have hne : (s.toList != s.toList) = false := by simp
    generalize needs p a = b at *
    cases b
    all_goals
      go_wp2_with fail
      go_ret
      exact ⟨rfl, HB.out⟩
end Go.Proofs.Ytopgkaekbbaglaa
