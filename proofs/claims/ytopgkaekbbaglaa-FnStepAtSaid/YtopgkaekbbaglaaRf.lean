/- The law FnStepAt: a step begins where one is listed, and nowhere else. -/
import Derived.Test.YtopgkaekbbaglaaRe
import Derived.Test.YtopgkaekbbaglaaFe
import Derived.Test.YtopgkaekbbaglaaFd
namespace Go.Proofs.Ytopgkaekbbaglaa
set_option linter.unusedVariables false
set_option linter.unusedSimpArgs false
open Go.RowKit Pl

def inAts (a : Int) (l : List Int) : Bool := l.any (fun x => x == a)
theorem inAts_step {a : Int} {l : List Int} {k : Nat} (hk : k < l.length) : inAts a (l.take (k + 1)) = (inAts a (l.take k) || l[k] == a) := by
  unfold inAts
  rw [List.take_succ_eq_append_getElem hk, List.any_append]
  simp
theorem find_in (p : ByteArray) (a : Int) : (FindAt p a).isSome = ((IParse p).isSome && inAts a (ats (Flat p))) := by
  have h : (FindAt p a).isSome = inAts a (ats (Flat p)) := by
    unfold FindAt inAts ats
    rw [List.any_map, List.isSome_find?]
    rfl
  rw [h]
  cases hp : IParse p with
  | none => rw [flat_none hp]; rfl
  | some x => rfl
set_option maxHeartbeats 2000000 in
set_option maxRecDepth 100000 in
theorem law_fstepat (A1 A2 : Option Addr) (n1 c1 n2 c2 : Nat) (xs1 xs2 : Nat → Int) (w : World) (H1 : BArg w (.slice A1 n1 c1) n1 xs1) (H2 : BArg w (.slice A2 n2 c2) n2 xs2) :
    Calls Try.prog 14 #[.slice A1 n1 c1, .slice A2 n2 c2] w fun e w' => e = .returned (.bool true) ∧ Below w.heap.size w w' := by
  have K1 := Lib.hid H1
  have K2 := Lib.hid H2
  clear H1 H2
  by_cases h1 : 1048576 < n1
  · have g : decide ((1048576 : Int) < (n1 : Int)) = true := by simp; omega
    go_enter Try.func14, Try.ntmps14
    go_wp2_with fail
    go_ret
    exact ⟨rfl, Below.refl _ _⟩
  have g : decide ((1048576 : Int) < (n1 : Int)) = false := by simp; omega
  by_cases h2 : 1048576 < n2
  · have g' : decide ((1048576 : Int) < (n2 : Int)) = true := by simp; omega
    go_enter Try.func14, Try.ntmps14
    go_wp2_with fail
    go_ret
    exact ⟨rfl, Below.refl _ _⟩
  have g' : decide ((1048576 : Int) < (n2 : Int)) = false := by simp; omega
  go_enter Try.func14, Try.ntmps14
  go_wp2_with fail
  refine (drawat_any w _ n1 xs1 (by omega) K1.out).mono ?_
  rintro e w1 ⟨p, a, hp, rfl, hb1⟩
  have B1 := Lib.hid hb1
  clear hb1
  have hp' : p.size ≤ 1048576 := by omega
  go_wp2_with fail
  refine (istepat_any p a w1 hp').mono ?_
  rintro e w2 ⟨rfl, hb⟩
  have B2 := Lib.hid (B1.out.trans (hb.mono B1.out.size))
  clear hb
  go_wp2_with fail
  refine (sstepat_any p a w2 hp').mono ?_
  rintro e w3 ⟨rfl, hb⟩
  have B3 := Lib.hid (B2.out.trans (hb.mono B2.out.size))
  clear hb
  go_wp2_with fail
  refine (iscope_any p a w3 hp').mono ?_
  rintro e w4 ⟨rfl, hb⟩
  have B4 := Lib.hid (B3.out.trans (hb.mono B3.out.size))
  clear hb
  go_wp2_with fail
  refine (sscope_any p a w4 hp').mono ?_
  rintro e w5 ⟨rfl, hb⟩
  have B5 := Lib.hid (B4.out.trans (hb.mono B4.out.size))
  clear hb
  go_wp2_with fail
  refine (drawcount_any w5 _ n2 xs2 (by omega) (K2.out.below B5.out)).mono ?_
  rintro e w6 ⟨q, kd, hq, rfl, hb⟩
  have B6 := Lib.hid (B5.out.trans (hb.mono B5.out.size))
  clear hb
  have hq' : q.size ≤ 1048576 := by omega
  go_wp2_with fail
  have HFI := Lib.hid (find_in p a)
  have HS0 := Lib.hid (fun (h : (FindAt p a).isSome = false) => show stepOf p a = ⟨#[]⟩ ∧ scopeOf p a = ⟨#[]⟩ from ⟨stepOf_none (by simpa using h), scopeOf_none (by simpa using h)⟩)
  have hl80 : (ats (Flat p)).length ≤ 80 := by rw [ats_length]; exact flat_le p
  refine (istepsof_any p w6 hp').mono ?_
  rintro e w7 ⟨A, cp, rfl, hb, ho⟩
  have B7 := Lib.hid (B6.out.trans (hb.mono B6.out.size))
  have HO := Lib.hid ho
  clear hb ho
  generalize (FindAt p a).isSome = b at *
  generalize (IParse p).isSome = ok at *
  generalize ats (Flat p) = l at *
  generalize stepOf p a = st at *
  generalize scopeOf p a = sc at *
  have g1 : (st.toList == st.toList) = true := by simp
  have g2 : (sc.toList == sc.toList) = true := by simp
  have HC1 := Lib.hid (fun W => icount_any q kd W hq')
  have HC2 := Lib.hid (fun W => scount_any q kd W hq')
  have g3 : (countOf q kd == countOf q kd) = true := by simp
  generalize countOf q kd = ct at *
  go_wp2_with fail
  go_loop [19, 71] (fun o i => ∃ k : Nat, k ≤ l.length ∧ o = .bool (inAts a (l.take k)) ∧ i = .int .i64 k) (fun _ i => l.length - (intOf i).toNat)
  case atStart => exact ⟨0, Nat.zero_le _, rfl, rfl⟩
  case round =>
    obtain ⟨k, hk, rfl, rfl⟩ := hrel
    by_cases hlt : k < l.length
    · obtain ⟨ga, rfl, hc0⟩ := HO.out.at (ints_length l).symm hlt
      rw [ints_at hlt] at hc0
      have HST := Lib.hid (inAts_step (a := a) hlt)
      generalize inAts a (l.take k) = o at *
      cases o
      · generalize l[k] = x at *
        go_wp2_with fail
        go_round
        case rel => exact ⟨k + 1, hlt, by rw [HST.out]; rfl, by go_num⟩
        case measure => simp [intOf]; omega
      · go_wp2_with fail
        go_round
        case rel => exact ⟨k + 1, hlt, by rw [HST.out]; rfl, by go_num⟩
        case measure => simp [intOf]; omega
    · have hkn : k = l.length := by omega
      subst hkn
      rw [List.take_length]
      clear hlt
      generalize inAts a l = o at *
      cases b
      · obtain ⟨rfl, rfl⟩ := HS0.out rfl
        have HB := Lib.hid (fun (x : Bool) => show (ok && o) = false from HFI.out.symm)
        cases ok
        · go_wp2_with fail
          refine (HC1.out _).mono ?_
          rintro e w8 ⟨rfl, hb⟩
          have B8 := Lib.hid (B7.out.trans (hb.mono B7.out.size))
          clear hb
          go_wp2_with fail
          refine (HC2.out _).mono ?_
          rintro e w9 ⟨rfl, hb⟩
          have B9 := Lib.hid (B8.out.trans (hb.mono B8.out.size))
          clear hb
          go_wp2_with fail
          go_ret
          exact ⟨rfl, B9.out⟩
        · obtain rfl : o = false := by simpa using HFI.out
          go_wp2_with fail
          refine (HC1.out _).mono ?_
          rintro e w8 ⟨rfl, hb⟩
          have B8 := Lib.hid (B7.out.trans (hb.mono B7.out.size))
          clear hb
          go_wp2_with fail
          refine (HC2.out _).mono ?_
          rintro e w9 ⟨rfl, hb⟩
          have B9 := Lib.hid (B8.out.trans (hb.mono B8.out.size))
          clear hb
          go_wp2_with fail
          go_ret
          exact ⟨rfl, B9.out⟩
      · obtain ⟨rfl, rfl⟩ : ok = true ∧ o = true := by simpa using HFI.out
        go_wp2_with fail
        refine (HC1.out _).mono ?_
        rintro e w8 ⟨rfl, hb⟩
        have B8 := Lib.hid (B7.out.trans (hb.mono B7.out.size))
        clear hb
        go_wp2_with fail
        refine (HC2.out _).mono ?_
        rintro e w9 ⟨rfl, hb⟩
        have B9 := Lib.hid (B8.out.trans (hb.mono B8.out.size))
        clear hb
        go_wp2_with fail
        go_ret
        exact ⟨rfl, B9.out⟩
end Go.Proofs.Ytopgkaekbbaglaa
