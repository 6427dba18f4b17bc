/- Cl: texts of this proof, joined. -/
import Derived.Test.YtojhdfdhfajjjaaDoorCa
import Derived.Test.YtojhdfdhfajjjaaDoorCb
import Derived.Test.YtojhdfdhfajjjaaDoorCc
import Derived.Test.YtojhdfdhfajjjaaDoorCd
import Derived.Test.YtojhdfdhfajjjaaDoorCe
import Derived.Test.YtojhdfdhfajjjaaDoorCf
import Derived.Test.YtojhdfdhfajjjaaDoorCg
import Derived.Test.YtojhdfdhfajjjaaDoorCh
import Derived.Test.YtojhdfdhfajjjaaDoorCi
import Derived.Test.YtojhdfdhfajjjaaDoorCj
import Derived.Test.YtojhdfdhfajjjaaDoorCk
import Derived.Deep.DeepCutAuto
import Derived.Deep.CutBlock
import Derived.Maps.AppendAt
namespace Go.Proofs.YtojhdfdhfajjjaaDoor
set_option linter.unusedVariables false
set_option linter.unusedSimpArgs false
open Go.RowKit Pl
theorem empty_size' (s : ByteArray) : s.toList.isEmpty = decide (s.size = 0) := by
 rw [empty_size]
def EvPost (w : World) (e : Ending) (w' : World) : Prop :=
 ∃ (t : ByteArray) (x : Bool), e = .returned (.tuple #[.string t, .bool x]) ∧ Below w.heap.size w w' ∧ t.size ≤ 840000 ∧ (x = true → 1 ≤ t.size)
set_option maxHeartbeats 1600000 in
set_option maxRecDepth 100000 in
theorem events_any (p ch : ByteArray) (w : World) (hp : p.size ≤ 1048576) (hc : ch.size ≤ 1048576) : Calls Tryd.prog 22 #[.string p, .string ch] w (EvPost w) := by
 go_enter Tryd.func22, Tryd.ntmps22
 go_wp2_with fail
 refine (run_any p ch w hp hc).mono ?_
 rintro e w1 ⟨b, s, x, rfl, hb, hlt, hr, hev, hask⟩
 have HB := Lib.hid hb
 have c9 := hr.c9
 clear hb hr hask
 cases x
 ·go_wp2_with fail
  go_ret2
  exact ⟨_, false, rfl, HB.out, Nat.zero_le _, fun h => by cases h⟩
 ·by_cases he : s.ev.size = 0
  ·have hE : s.ev.toList.isEmpty = true := by rw [empty_size']; simpa using he
   clear he
   go_wp2_with fail
   go_ret2
   exact ⟨_, true, rfl, HB.out, by decide, fun _ => by decide⟩
  ·have hE : s.ev.toList.isEmpty = false := by rw [empty_size']; simpa using he
   have HE := Lib.hid he
   clear he
   go_wp2_with fail
   go_ret2
   exact ⟨s.ev, true, rfl, HB.out, hev, fun _ => by have := HE.out; omega⟩
def ChRel (w : World) (c : Nat) (v : Value) (n : Nat) (xs : Nat → Int) (q0 e m : Nat) (o i : Value) (wr : World) : Prop :=
 ∃ (k q' : Nat) (t : ByteArray), k ≤ m ∧ i = .int .i64 (k : Int) ∧ o = .string t ∧ t.size ≤ e + k ∧ q0 ≤ q' ∧ q' ≤ q0 + k ∧ DRd wr c v n xs q' ∧ w.grownBy wr (some c)
theorem four_letters (j : Nat) (h : j < 4) : ([ByteArray.mk #[101], ByteArray.mk #[109], ByteArray.mk #[120], ByteArray.mk #[108]].getD j ⟨#[]⟩).size ≤ 1 := by
 rcases (show j = 0 ∨ j = 1 ∨ j = 2 ∨ j = 3 by omega) with rfl | rfl | rfl | rfl <;> decide
theorem five_num (j : Nat) (h : j < 5) : ∃ m : Nat, m ≤ 12 ∧ ([4, 6, 8, 3, 12] : List Int).getD j 0 = (m : Int) := by
 rcases (show j = 0 ∨ j = 1 ∨ j = 2 ∨ j = 3 ∨ j = 4 by omega) with rfl | rfl | rfl | rfl | rfl
 ·exact ⟨4, by omega, rfl⟩
 ·exact ⟨6, by omega, rfl⟩
 ·exact ⟨8, by omega, rfl⟩
 ·exact ⟨3, by omega, rfl⟩
 ·exact ⟨12, by omega, rfl⟩
set_option maxHeartbeats 1600000 in
set_option maxRecDepth 100000 in
theorem choices_any (w : World) (c : Nat) (v : Value) (n : Nat) (xs : Nat → Int) (q : Nat) (p : ByteArray) (hd : DRd w c v n xs q) (hq : q ≤ 100000) (hp : p.size ≤ 1048576) :
  Calls Tryd.prog 23 #[.pointer (some ⟨c, 0, none⟩), .string p] w (DrawPost c v n xs w q 0 30 30) := by
 have HD := Lib.hid hd
 clear hd
 go_enter Tryd.func23, Tryd.ntmps23
 go_wp2_with fail
 have hB := World.grownBy_alloc w (.cells #[.int .i64 4, .int .i64 6, .int .i64 8, .int .i64 3, .int .i64 12] 3) (some c)
 have hBD := HD.out.grown (World.grownBy_alloc w (.cells #[.int .i64 4, .int .i64 6, .int .i64 8, .int .i64 3, .int .i64 12] 3) none) (by simp)
 refine (num_any _ c v n xs q w.heap.size 5 5 (fun i => ([4, 6, 8, 3, 12] : List Int).getD i 0) hBD (by omega) (by omega) (by omega) (ISl_alloc w [4, 6, 8, 3, 12] 3) (Nat.ne_of_gt HD.out.lt)).mono ?_
 rintro e w1 ⟨j, hj, rfl, hd1, hg1⟩
 obtain ⟨m, hm12, hm⟩ := five_num j hj
 rw [hm]
 have HD1 := Lib.hid hd1
 have HG1 := Lib.hid (World.grownBy.trans hB hg1)
 clear hd1 hg1 hB hBD hj hm j
 go_wp2_with fail
 go_loopw [5, 14] (fun o i wr => ChRel w c v n xs (q + 1) 0 m o i wr) (fun _ i _ => m - (intOf i).toNat)
 case atStart => exact ⟨0, q + 1, ⟨#[]⟩, Nat.zero_le _, rfl, rfl, Nat.le_refl _, Nat.le_refl _, Nat.le_refl _, HD1.out, HG1.out⟩
 case round =>
  obtain ⟨k, q1, t, hk, rfl, rfl, ht, hq1, hq2, hd, hg⟩ := hrel
  have HDr := Lib.hid hd
  have HGr := Lib.hid hg
  clear hd hg
  by_cases hlt : k < m
  ·go_wp2_with fail
   refine (run_any p t wr hp (by omega)).mono ?_
   rintro e w2 ⟨b, s2, x, rfl, hb2, hbl, hr2, hev, hask⟩
   have hcl : c < wr.heap.size := HDr.out.lt
   have hcb : b ≠ c := by omega
   have HD2 := Lib.hid (HDr.out.below hb2)
   have HG2 := Lib.hid (World.grownBy.trans HGr.out (grown_of hb2 (some c)))
   have HR2 := Lib.hid hr2
   have c13 := hr2.c13
   clear hb2 hr2 hev
   cases x
   ·by_cases he : s2.asked.size = 0
    ·have hE : s2.asked.toList.isEmpty = true := by rw [empty_size']; simpa using he
     clear he hask
     go_wp2_with fail
     clear c13 hE
     go_loopw [5, 43] (fun o i wr => ChRel w c v n xs q1 12 12 o i wr) (fun _ i _ => 12 - (intOf i).toNat)
     case atStart => exact ⟨0, q1, t, Nat.zero_le _, rfl, rfl, by omega, Nat.le_refl _, Nat.le_refl _, HD2.out, HG2.out⟩
     case round =>
      obtain ⟨kb, qb, tb, hkb, rfl, rfl, htb, hqb1, hqb2, hdb, hgb⟩ := hrel
      have HDb := Lib.hid hdb
      have HGb := Lib.hid hgb
      clear hdb hgb
      by_cases hltb : kb < 12
      ·go_wp2_with fail
       refine (run_any p tb wr hp (by omega)).mono ?_
       rintro e wb ⟨bb, sb, xb, rfl, hbb2, hbbl, hrb2, hevb, haskb⟩
       have hclb : c < wr.heap.size := HDb.out.lt
       have hcbb : bb ≠ c := by omega
       have HDc := Lib.hid (HDb.out.below hbb2)
       have HGc := Lib.hid (World.grownBy.trans HGb.out (grown_of hbb2 (some c)))
       have c13 := hrb2.c13
       clear hbb2 hrb2 hevb
       cases xb
       ·by_cases heb : sb.asked.size = 0
        ·have hEb : sb.asked.toList.isEmpty = true := by rw [empty_size']; simpa using heb
         clear heb haskb
         go_wp2_with fail
         clear c13
         refine (pick_any wb c v n xs qb 14 HDc.out (by omega) (by omega) (by omega)).mono ?_
         rintro e w5 ⟨j5, hj5, rfl, hd5, hg5⟩
         have HD5 := Lib.hid hd5
         have HG5 := Lib.hid (World.grownBy.trans HGc.out hg5)
         clear hd5 hg5
         by_cases hz : j5 = 0
         ·have hz' : ((j5 : Int) == 0) = true := by simp; omega
          clear hz hj5
          go_wp2_with fail
          refine (of_any _ c v n xs (qb + 1) w5.heap.size 4 4 (fun i => [ByteArray.mk #[101], ByteArray.mk #[109], ByteArray.mk #[120], ByteArray.mk #[108]].getD i ⟨#[]⟩) (HD5.out.grown (World.grownBy_alloc w5 (.cells #[.string ⟨#[101]⟩, .string ⟨#[109]⟩, .string ⟨#[120]⟩, .string ⟨#[108]⟩] 9) none) (by simp)) (by omega) (by omega) (by omega) (SSl_alloc w5 [ByteArray.mk #[101], ByteArray.mk #[109], ByteArray.mk #[120], ByteArray.mk #[108]] 9) (Nat.ne_of_gt HD5.out.lt)).mono ?_
          rintro e w6 ⟨j6, hj6, rfl, hd6, hg6⟩
          have hL := four_letters j6 hj6
          have HD6 := Lib.hid hd6
          have HG6 := Lib.hid (World.grownBy.trans HG5.out (World.grownBy.trans (World.grownBy_alloc w5 (.cells #[.string ⟨#[101]⟩, .string ⟨#[109]⟩, .string ⟨#[120]⟩, .string ⟨#[108]⟩] 9) (some c)) hg6))
          clear hd6 hg6 hj6 hz'
          generalize [ByteArray.mk #[101], ByteArray.mk #[109], ByteArray.mk #[120], ByteArray.mk #[108]].getD j6 ⟨#[]⟩ = t6 at *
          go_wp2_with fail
          go_ret
          exact ⟨_, qb + 1 + 1, Nat.zero_le _, by rw [ByteArray.size_append]; omega, by omega, by omega, rfl, HD6.out, HG6.out⟩
         ·have hz' : ((j5 : Int) == 0) = false := by simp; omega
          clear hz hj5
          go_wp2_with fail
          go_ret
          exact ⟨_, qb + 1, Nat.zero_le _, by omega, by omega, by omega, rfl, HD5.out, HG5.out⟩
        ·have hEb : sb.asked.toList.isEmpty = false := by rw [empty_size']; simpa using heb
         have h2b : sb.asked.size = 2 := by omega
         have HSZb := Lib.hid (show (tb ++ sb.asked.extract 0 1).size ≤ 12 + (kb + 1) by
          rw [ByteArray.size_append]
          have : (sb.asked.extract 0 1).size ≤ 1 := one_sub' sb.asked 0 (by omega)
          omega)
         clear heb haskb
         go_wp2_with fail
         go_roundw
         case rel => exact ⟨kb + 1, qb, _, hltb, by go_num, rfl, HSZb.out, by omega, by omega, HDc.out, HGc.out⟩
         case measure => simp [intOf]; omega
       ·go_wp2_with fail
        clear c13
        refine (pick_any wb c v n xs qb 14 HDc.out (by omega) (by omega) (by omega)).mono ?_
        rintro e w5 ⟨j5, hj5, rfl, hd5, hg5⟩
        have HD5 := Lib.hid hd5
        have HG5 := Lib.hid (World.grownBy.trans HGc.out hg5)
        clear hd5 hg5
        by_cases hz : j5 = 0
        ·have hz' : ((j5 : Int) == 0) = true := by simp; omega
         clear hz hj5
         go_wp2_with fail
         refine (of_any _ c v n xs (qb + 1) w5.heap.size 4 4 (fun i => [ByteArray.mk #[101], ByteArray.mk #[109], ByteArray.mk #[120], ByteArray.mk #[108]].getD i ⟨#[]⟩) (HD5.out.grown (World.grownBy_alloc w5 (.cells #[.string ⟨#[101]⟩, .string ⟨#[109]⟩, .string ⟨#[120]⟩, .string ⟨#[108]⟩] 9) none) (by simp)) (by omega) (by omega) (by omega) (SSl_alloc w5 [ByteArray.mk #[101], ByteArray.mk #[109], ByteArray.mk #[120], ByteArray.mk #[108]] 9) (Nat.ne_of_gt HD5.out.lt)).mono ?_
         rintro e w6 ⟨j6, hj6, rfl, hd6, hg6⟩
         have hL := four_letters j6 hj6
         have HD6 := Lib.hid hd6
         have HG6 := Lib.hid (World.grownBy.trans HG5.out (World.grownBy.trans (World.grownBy_alloc w5 (.cells #[.string ⟨#[101]⟩, .string ⟨#[109]⟩, .string ⟨#[120]⟩, .string ⟨#[108]⟩] 9) (some c)) hg6))
         clear hd6 hg6 hj6 hz'
         generalize [ByteArray.mk #[101], ByteArray.mk #[109], ByteArray.mk #[120], ByteArray.mk #[108]].getD j6 ⟨#[]⟩ = t6 at *
         go_wp2_with fail
         go_ret
         exact ⟨_, qb + 1 + 1, Nat.zero_le _, by rw [ByteArray.size_append]; omega, by omega, by omega, rfl, HD6.out, HG6.out⟩
        ·have hz' : ((j5 : Int) == 0) = false := by simp; omega
         clear hz hj5
         go_wp2_with fail
         go_ret
         exact ⟨_, qb + 1, Nat.zero_le _, by omega, by omega, by omega, rfl, HD5.out, HG5.out⟩
      ·obtain rfl : kb = 12 := by omega
       have c13 : True := trivial
       go_wp2_with fail
       clear c13
       refine (pick_any wr c v n xs qb 14 HDb.out (by omega) (by omega) (by omega)).mono ?_
       rintro e w5 ⟨j5, hj5, rfl, hd5, hg5⟩
       have HD5 := Lib.hid hd5
       have HG5 := Lib.hid (World.grownBy.trans HGb.out hg5)
       clear hd5 hg5
       by_cases hz : j5 = 0
       ·have hz' : ((j5 : Int) == 0) = true := by simp; omega
        clear hz hj5
        go_wp2_with fail
        refine (of_any _ c v n xs (qb + 1) w5.heap.size 4 4 (fun i => [ByteArray.mk #[101], ByteArray.mk #[109], ByteArray.mk #[120], ByteArray.mk #[108]].getD i ⟨#[]⟩) (HD5.out.grown (World.grownBy_alloc w5 (.cells #[.string ⟨#[101]⟩, .string ⟨#[109]⟩, .string ⟨#[120]⟩, .string ⟨#[108]⟩] 9) none) (by simp)) (by omega) (by omega) (by omega) (SSl_alloc w5 [ByteArray.mk #[101], ByteArray.mk #[109], ByteArray.mk #[120], ByteArray.mk #[108]] 9) (Nat.ne_of_gt HD5.out.lt)).mono ?_
        rintro e w6 ⟨j6, hj6, rfl, hd6, hg6⟩
        have hL := four_letters j6 hj6
        have HD6 := Lib.hid hd6
        have HG6 := Lib.hid (World.grownBy.trans HG5.out (World.grownBy.trans (World.grownBy_alloc w5 (.cells #[.string ⟨#[101]⟩, .string ⟨#[109]⟩, .string ⟨#[120]⟩, .string ⟨#[108]⟩] 9) (some c)) hg6))
        clear hd6 hg6 hj6 hz'
        generalize [ByteArray.mk #[101], ByteArray.mk #[109], ByteArray.mk #[120], ByteArray.mk #[108]].getD j6 ⟨#[]⟩ = t6 at *
        go_wp2_with fail
        go_ret
        exact ⟨_, qb + 1 + 1, Nat.zero_le _, by rw [ByteArray.size_append]; omega, by omega, by omega, rfl, HD6.out, HG6.out⟩
       ·have hz' : ((j5 : Int) == 0) = false := by simp; omega
        clear hz hj5
        go_wp2_with fail
        go_ret
        exact ⟨_, qb + 1, Nat.zero_le _, by omega, by omega, by omega, rfl, HD5.out, HG5.out⟩
    ·have hE : s2.asked.toList.isEmpty = false := by rw [empty_size']; simpa using he
     have h2 : s2.asked.size = 2 := by omega
     clear he hask
     go_wp2_with fail
     refine (pick_any w2 c v n xs q1 2 HD2.out (by omega) (by omega) (by omega)).mono ?_
     rintro e w3 ⟨j, hj, rfl, hd3, hg3⟩
     have HD3 := Lib.hid hd3
     have HG3 := Lib.hid (World.grownBy.trans HG2.out hg3)
     have c13' := (HR2.out.grown hg3 (fun e => hcb (Option.some.inj e))).c13
     have hsz : (t ++ s2.asked.extract j (j + 1)).size ≤ 0 + (k + 1) := by
      rw [ByteArray.size_append]
      have := one_sub' s2.asked j (by omega)
      omega
     have HSZ := Lib.hid hsz
     clear hd3 hg3 c13 hsz
     go_wp2_with fail
     go_roundw
     case rel => exact ⟨k + 1, q1 + 1, _, hlt, by go_num, rfl, HSZ.out, by omega, by omega, HD3.out, HG3.out⟩
     case measure => simp [intOf]; omega
   ·go_wp2_with fail
    clear c13
    go_loopw [5, 43] (fun o i wr => ChRel w c v n xs q1 12 12 o i wr) (fun _ i _ => 12 - (intOf i).toNat)
    case atStart => exact ⟨0, q1, t, Nat.zero_le _, rfl, rfl, by omega, Nat.le_refl _, Nat.le_refl _, HD2.out, HG2.out⟩
    case round =>
     obtain ⟨kb, qb, tb, hkb, rfl, rfl, htb, hqb1, hqb2, hdb, hgb⟩ := hrel
     have HDb := Lib.hid hdb
     have HGb := Lib.hid hgb
     clear hdb hgb
     by_cases hltb : kb < 12
     ·go_wp2_with fail
      refine (run_any p tb wr hp (by omega)).mono ?_
      rintro e wb ⟨bb, sb, xb, rfl, hbb2, hbbl, hrb2, hevb, haskb⟩
      have hclb : c < wr.heap.size := HDb.out.lt
      have hcbb : bb ≠ c := by omega
      have HDc := Lib.hid (HDb.out.below hbb2)
      have HGc := Lib.hid (World.grownBy.trans HGb.out (grown_of hbb2 (some c)))
      have c13 := hrb2.c13
      clear hbb2 hrb2 hevb
      cases xb
      ·by_cases heb : sb.asked.size = 0
       ·have hEb : sb.asked.toList.isEmpty = true := by rw [empty_size']; simpa using heb
        clear heb haskb
        go_wp2_with fail
        clear c13
        refine (pick_any wb c v n xs qb 14 HDc.out (by omega) (by omega) (by omega)).mono ?_
        rintro e w5 ⟨j5, hj5, rfl, hd5, hg5⟩
        have HD5 := Lib.hid hd5
        have HG5 := Lib.hid (World.grownBy.trans HGc.out hg5)
        clear hd5 hg5
        by_cases hz : j5 = 0
        ·have hz' : ((j5 : Int) == 0) = true := by simp; omega
         clear hz hj5
         go_wp2_with fail
         refine (of_any _ c v n xs (qb + 1) w5.heap.size 4 4 (fun i => [ByteArray.mk #[101], ByteArray.mk #[109], ByteArray.mk #[120], ByteArray.mk #[108]].getD i ⟨#[]⟩) (HD5.out.grown (World.grownBy_alloc w5 (.cells #[.string ⟨#[101]⟩, .string ⟨#[109]⟩, .string ⟨#[120]⟩, .string ⟨#[108]⟩] 9) none) (by simp)) (by omega) (by omega) (by omega) (SSl_alloc w5 [ByteArray.mk #[101], ByteArray.mk #[109], ByteArray.mk #[120], ByteArray.mk #[108]] 9) (Nat.ne_of_gt HD5.out.lt)).mono ?_
         rintro e w6 ⟨j6, hj6, rfl, hd6, hg6⟩
         have hL := four_letters j6 hj6
         have HD6 := Lib.hid hd6
         have HG6 := Lib.hid (World.grownBy.trans HG5.out (World.grownBy.trans (World.grownBy_alloc w5 (.cells #[.string ⟨#[101]⟩, .string ⟨#[109]⟩, .string ⟨#[120]⟩, .string ⟨#[108]⟩] 9) (some c)) hg6))
         clear hd6 hg6 hj6 hz'
         generalize [ByteArray.mk #[101], ByteArray.mk #[109], ByteArray.mk #[120], ByteArray.mk #[108]].getD j6 ⟨#[]⟩ = t6 at *
         go_wp2_with fail
         go_ret
         exact ⟨_, qb + 1 + 1, Nat.zero_le _, by rw [ByteArray.size_append]; omega, by omega, by omega, rfl, HD6.out, HG6.out⟩
        ·have hz' : ((j5 : Int) == 0) = false := by simp; omega
         clear hz hj5
         go_wp2_with fail
         go_ret
         exact ⟨_, qb + 1, Nat.zero_le _, by omega, by omega, by omega, rfl, HD5.out, HG5.out⟩
       ·have hEb : sb.asked.toList.isEmpty = false := by rw [empty_size']; simpa using heb
        have h2b : sb.asked.size = 2 := by omega
        have HSZb := Lib.hid (show (tb ++ sb.asked.extract 0 1).size ≤ 12 + (kb + 1) by
         rw [ByteArray.size_append]
         have : (sb.asked.extract 0 1).size ≤ 1 := one_sub' sb.asked 0 (by omega)
         omega)
        clear heb haskb
        go_wp2_with fail
        go_roundw
        case rel => exact ⟨kb + 1, qb, _, hltb, by go_num, rfl, HSZb.out, by omega, by omega, HDc.out, HGc.out⟩
        case measure => simp [intOf]; omega
      ·go_wp2_with fail
       clear c13
       refine (pick_any wb c v n xs qb 14 HDc.out (by omega) (by omega) (by omega)).mono ?_
       rintro e w5 ⟨j5, hj5, rfl, hd5, hg5⟩
       have HD5 := Lib.hid hd5
       have HG5 := Lib.hid (World.grownBy.trans HGc.out hg5)
       clear hd5 hg5
       by_cases hz : j5 = 0
       ·have hz' : ((j5 : Int) == 0) = true := by simp; omega
        clear hz hj5
        go_wp2_with fail
        refine (of_any _ c v n xs (qb + 1) w5.heap.size 4 4 (fun i => [ByteArray.mk #[101], ByteArray.mk #[109], ByteArray.mk #[120], ByteArray.mk #[108]].getD i ⟨#[]⟩) (HD5.out.grown (World.grownBy_alloc w5 (.cells #[.string ⟨#[101]⟩, .string ⟨#[109]⟩, .string ⟨#[120]⟩, .string ⟨#[108]⟩] 9) none) (by simp)) (by omega) (by omega) (by omega) (SSl_alloc w5 [ByteArray.mk #[101], ByteArray.mk #[109], ByteArray.mk #[120], ByteArray.mk #[108]] 9) (Nat.ne_of_gt HD5.out.lt)).mono ?_
        rintro e w6 ⟨j6, hj6, rfl, hd6, hg6⟩
        have hL := four_letters j6 hj6
        have HD6 := Lib.hid hd6
        have HG6 := Lib.hid (World.grownBy.trans HG5.out (World.grownBy.trans (World.grownBy_alloc w5 (.cells #[.string ⟨#[101]⟩, .string ⟨#[109]⟩, .string ⟨#[120]⟩, .string ⟨#[108]⟩] 9) (some c)) hg6))
        clear hd6 hg6 hj6 hz'
        generalize [ByteArray.mk #[101], ByteArray.mk #[109], ByteArray.mk #[120], ByteArray.mk #[108]].getD j6 ⟨#[]⟩ = t6 at *
        go_wp2_with fail
        go_ret
        exact ⟨_, qb + 1 + 1, Nat.zero_le _, by rw [ByteArray.size_append]; omega, by omega, by omega, rfl, HD6.out, HG6.out⟩
       ·have hz' : ((j5 : Int) == 0) = false := by simp; omega
        clear hz hj5
        go_wp2_with fail
        go_ret
        exact ⟨_, qb + 1, Nat.zero_le _, by omega, by omega, by omega, rfl, HD5.out, HG5.out⟩
     ·obtain rfl : kb = 12 := by omega
      have c13 : True := trivial
      go_wp2_with fail
      clear c13
      refine (pick_any wr c v n xs qb 14 HDb.out (by omega) (by omega) (by omega)).mono ?_
      rintro e w5 ⟨j5, hj5, rfl, hd5, hg5⟩
      have HD5 := Lib.hid hd5
      have HG5 := Lib.hid (World.grownBy.trans HGb.out hg5)
      clear hd5 hg5
      by_cases hz : j5 = 0
      ·have hz' : ((j5 : Int) == 0) = true := by simp; omega
       clear hz hj5
       go_wp2_with fail
       refine (of_any _ c v n xs (qb + 1) w5.heap.size 4 4 (fun i => [ByteArray.mk #[101], ByteArray.mk #[109], ByteArray.mk #[120], ByteArray.mk #[108]].getD i ⟨#[]⟩) (HD5.out.grown (World.grownBy_alloc w5 (.cells #[.string ⟨#[101]⟩, .string ⟨#[109]⟩, .string ⟨#[120]⟩, .string ⟨#[108]⟩] 9) none) (by simp)) (by omega) (by omega) (by omega) (SSl_alloc w5 [ByteArray.mk #[101], ByteArray.mk #[109], ByteArray.mk #[120], ByteArray.mk #[108]] 9) (Nat.ne_of_gt HD5.out.lt)).mono ?_
       rintro e w6 ⟨j6, hj6, rfl, hd6, hg6⟩
       have hL := four_letters j6 hj6
       have HD6 := Lib.hid hd6
       have HG6 := Lib.hid (World.grownBy.trans HG5.out (World.grownBy.trans (World.grownBy_alloc w5 (.cells #[.string ⟨#[101]⟩, .string ⟨#[109]⟩, .string ⟨#[120]⟩, .string ⟨#[108]⟩] 9) (some c)) hg6))
       clear hd6 hg6 hj6 hz'
       generalize [ByteArray.mk #[101], ByteArray.mk #[109], ByteArray.mk #[120], ByteArray.mk #[108]].getD j6 ⟨#[]⟩ = t6 at *
       go_wp2_with fail
       go_ret
       exact ⟨_, qb + 1 + 1, Nat.zero_le _, by rw [ByteArray.size_append]; omega, by omega, by omega, rfl, HD6.out, HG6.out⟩
      ·have hz' : ((j5 : Int) == 0) = false := by simp; omega
       clear hz hj5
       go_wp2_with fail
       go_ret
       exact ⟨_, qb + 1, Nat.zero_le _, by omega, by omega, by omega, rfl, HD5.out, HG5.out⟩
  ·obtain rfl : k = m := by omega
   go_wp2_with fail
   go_loopw [5, 43] (fun o i wr => ChRel w c v n xs q1 12 12 o i wr) (fun _ i _ => 12 - (intOf i).toNat)
   case atStart => exact ⟨0, q1, t, Nat.zero_le _, rfl, rfl, by omega, Nat.le_refl _, Nat.le_refl _, HDr.out, HGr.out⟩
   case round =>
    obtain ⟨kb, qb, tb, hkb, rfl, rfl, htb, hqb1, hqb2, hdb, hgb⟩ := hrel
    have HDb := Lib.hid hdb
    have HGb := Lib.hid hgb
    clear hdb hgb
    by_cases hltb : kb < 12
    ·go_wp2_with fail
     refine (run_any p tb wr hp (by omega)).mono ?_
     rintro e wb ⟨bb, sb, xb, rfl, hbb2, hbbl, hrb2, hevb, haskb⟩
     have hclb : c < wr.heap.size := HDb.out.lt
     have hcbb : bb ≠ c := by omega
     have HDc := Lib.hid (HDb.out.below hbb2)
     have HGc := Lib.hid (World.grownBy.trans HGb.out (grown_of hbb2 (some c)))
     have c13 := hrb2.c13
     clear hbb2 hrb2 hevb
     cases xb
     ·by_cases heb : sb.asked.size = 0
      ·have hEb : sb.asked.toList.isEmpty = true := by rw [empty_size']; simpa using heb
       clear heb haskb
       go_wp2_with fail
       clear c13
       refine (pick_any wb c v n xs qb 14 HDc.out (by omega) (by omega) (by omega)).mono ?_
       rintro e w5 ⟨j5, hj5, rfl, hd5, hg5⟩
       have HD5 := Lib.hid hd5
       have HG5 := Lib.hid (World.grownBy.trans HGc.out hg5)
       clear hd5 hg5
       by_cases hz : j5 = 0
       ·have hz' : ((j5 : Int) == 0) = true := by simp; omega
        clear hz hj5
        go_wp2_with fail
        refine (of_any _ c v n xs (qb + 1) w5.heap.size 4 4 (fun i => [ByteArray.mk #[101], ByteArray.mk #[109], ByteArray.mk #[120], ByteArray.mk #[108]].getD i ⟨#[]⟩) (HD5.out.grown (World.grownBy_alloc w5 (.cells #[.string ⟨#[101]⟩, .string ⟨#[109]⟩, .string ⟨#[120]⟩, .string ⟨#[108]⟩] 9) none) (by simp)) (by omega) (by omega) (by omega) (SSl_alloc w5 [ByteArray.mk #[101], ByteArray.mk #[109], ByteArray.mk #[120], ByteArray.mk #[108]] 9) (Nat.ne_of_gt HD5.out.lt)).mono ?_
        rintro e w6 ⟨j6, hj6, rfl, hd6, hg6⟩
        have hL := four_letters j6 hj6
        have HD6 := Lib.hid hd6
        have HG6 := Lib.hid (World.grownBy.trans HG5.out (World.grownBy.trans (World.grownBy_alloc w5 (.cells #[.string ⟨#[101]⟩, .string ⟨#[109]⟩, .string ⟨#[120]⟩, .string ⟨#[108]⟩] 9) (some c)) hg6))
        clear hd6 hg6 hj6 hz'
        generalize [ByteArray.mk #[101], ByteArray.mk #[109], ByteArray.mk #[120], ByteArray.mk #[108]].getD j6 ⟨#[]⟩ = t6 at *
        go_wp2_with fail
        go_ret
        exact ⟨_, qb + 1 + 1, Nat.zero_le _, by rw [ByteArray.size_append]; omega, by omega, by omega, rfl, HD6.out, HG6.out⟩
       ·have hz' : ((j5 : Int) == 0) = false := by simp; omega
        clear hz hj5
        go_wp2_with fail
        go_ret
        exact ⟨_, qb + 1, Nat.zero_le _, by omega, by omega, by omega, rfl, HD5.out, HG5.out⟩
      ·have hEb : sb.asked.toList.isEmpty = false := by rw [empty_size']; simpa using heb
       have h2b : sb.asked.size = 2 := by omega
       have HSZb := Lib.hid (show (tb ++ sb.asked.extract 0 1).size ≤ 12 + (kb + 1) by
        rw [ByteArray.size_append]
        have : (sb.asked.extract 0 1).size ≤ 1 := one_sub' sb.asked 0 (by omega)
        omega)
       clear heb haskb
       go_wp2_with fail
       go_roundw
       case rel => exact ⟨kb + 1, qb, _, hltb, by go_num, rfl, HSZb.out, by omega, by omega, HDc.out, HGc.out⟩
       case measure => simp [intOf]; omega
     ·go_wp2_with fail
      clear c13
      refine (pick_any wb c v n xs qb 14 HDc.out (by omega) (by omega) (by omega)).mono ?_
      rintro e w5 ⟨j5, hj5, rfl, hd5, hg5⟩
      have HD5 := Lib.hid hd5
      have HG5 := Lib.hid (World.grownBy.trans HGc.out hg5)
      clear hd5 hg5
      by_cases hz : j5 = 0
      ·have hz' : ((j5 : Int) == 0) = true := by simp; omega
       clear hz hj5
       go_wp2_with fail
       refine (of_any _ c v n xs (qb + 1) w5.heap.size 4 4 (fun i => [ByteArray.mk #[101], ByteArray.mk #[109], ByteArray.mk #[120], ByteArray.mk #[108]].getD i ⟨#[]⟩) (HD5.out.grown (World.grownBy_alloc w5 (.cells #[.string ⟨#[101]⟩, .string ⟨#[109]⟩, .string ⟨#[120]⟩, .string ⟨#[108]⟩] 9) none) (by simp)) (by omega) (by omega) (by omega) (SSl_alloc w5 [ByteArray.mk #[101], ByteArray.mk #[109], ByteArray.mk #[120], ByteArray.mk #[108]] 9) (Nat.ne_of_gt HD5.out.lt)).mono ?_
       rintro e w6 ⟨j6, hj6, rfl, hd6, hg6⟩
       have hL := four_letters j6 hj6
       have HD6 := Lib.hid hd6
       have HG6 := Lib.hid (World.grownBy.trans HG5.out (World.grownBy.trans (World.grownBy_alloc w5 (.cells #[.string ⟨#[101]⟩, .string ⟨#[109]⟩, .string ⟨#[120]⟩, .string ⟨#[108]⟩] 9) (some c)) hg6))
       clear hd6 hg6 hj6 hz'
       generalize [ByteArray.mk #[101], ByteArray.mk #[109], ByteArray.mk #[120], ByteArray.mk #[108]].getD j6 ⟨#[]⟩ = t6 at *
       go_wp2_with fail
       go_ret
       exact ⟨_, qb + 1 + 1, Nat.zero_le _, by rw [ByteArray.size_append]; omega, by omega, by omega, rfl, HD6.out, HG6.out⟩
      ·have hz' : ((j5 : Int) == 0) = false := by simp; omega
       clear hz hj5
       go_wp2_with fail
       go_ret
       exact ⟨_, qb + 1, Nat.zero_le _, by omega, by omega, by omega, rfl, HD5.out, HG5.out⟩
    ·obtain rfl : kb = 12 := by omega
     have c13 : True := trivial
     go_wp2_with fail
     clear c13
     refine (pick_any wr c v n xs qb 14 HDb.out (by omega) (by omega) (by omega)).mono ?_
     rintro e w5 ⟨j5, hj5, rfl, hd5, hg5⟩
     have HD5 := Lib.hid hd5
     have HG5 := Lib.hid (World.grownBy.trans HGb.out hg5)
     clear hd5 hg5
     by_cases hz : j5 = 0
     ·have hz' : ((j5 : Int) == 0) = true := by simp; omega
      clear hz hj5
      go_wp2_with fail
      refine (of_any _ c v n xs (qb + 1) w5.heap.size 4 4 (fun i => [ByteArray.mk #[101], ByteArray.mk #[109], ByteArray.mk #[120], ByteArray.mk #[108]].getD i ⟨#[]⟩) (HD5.out.grown (World.grownBy_alloc w5 (.cells #[.string ⟨#[101]⟩, .string ⟨#[109]⟩, .string ⟨#[120]⟩, .string ⟨#[108]⟩] 9) none) (by simp)) (by omega) (by omega) (by omega) (SSl_alloc w5 [ByteArray.mk #[101], ByteArray.mk #[109], ByteArray.mk #[120], ByteArray.mk #[108]] 9) (Nat.ne_of_gt HD5.out.lt)).mono ?_
      rintro e w6 ⟨j6, hj6, rfl, hd6, hg6⟩
      have hL := four_letters j6 hj6
      have HD6 := Lib.hid hd6
      have HG6 := Lib.hid (World.grownBy.trans HG5.out (World.grownBy.trans (World.grownBy_alloc w5 (.cells #[.string ⟨#[101]⟩, .string ⟨#[109]⟩, .string ⟨#[120]⟩, .string ⟨#[108]⟩] 9) (some c)) hg6))
      clear hd6 hg6 hj6 hz'
      generalize [ByteArray.mk #[101], ByteArray.mk #[109], ByteArray.mk #[120], ByteArray.mk #[108]].getD j6 ⟨#[]⟩ = t6 at *
      go_wp2_with fail
      go_ret
      exact ⟨_, qb + 1 + 1, Nat.zero_le _, by rw [ByteArray.size_append]; omega, by omega, by omega, rfl, HD6.out, HG6.out⟩
     ·have hz' : ((j5 : Int) == 0) = false := by simp; omega
      clear hz hj5
      go_wp2_with fail
      go_ret
      exact ⟨_, qb + 1, Nat.zero_le _, by omega, by omega, by omega, rfl, HD5.out, HG5.out⟩
structure RowK (w : World) (ok : Nat → Prop) (e size : Nat) (v : Value) (n : Nat) (xs : List Value) : Prop where
  row : w.ownsRow 0 e size v n xs
  let_ : ∀ k, v.ownBlock = some k → ok k
theorem RowK.keep {w w' : World} {ok : Nat → Prop} {e size n : Nat} {v : Value} {xs : List Value} (h : RowK w ok e size v n xs) (hk : ∀ j, v.ownBlock = some j → j < w.heap.size → w'.heap[j]? = w.heap[j]?) : RowK w' ok e size v n xs := by
  refine ⟨⟨h.row.1, ?_⟩, h.let_⟩
  rcases h.row.2 with hn | ⟨g, cap, cur, hv, hb, hg, r⟩
  · exact .inl hn
  · refine .inr ⟨g, cap, cur, hv, hb, ?_, r⟩
    rw [hk g (by rw [hv]; rfl) (Array.getElem?_eq_some_iff.1 hg).1]
    exact hg
theorem RowK.mono {w : World} {ok ok' : Nat → Prop} {e size n : Nat} {v : Value} {xs : List Value} (h : RowK w ok e size v n xs) (hk : ∀ j, ok j → ok' j) : RowK w ok' e size v n xs := ⟨h.row, fun k hv => hk k (h.let_ k hv)⟩
theorem RowK.bound {w : World} {ok : Nat → Prop} {e size n : Nat} {v : Value} {xs : List Value} (h : RowK w ok e size v n xs) : RowK w (fun j => ok j ∧ j < w.heap.size) e size v n xs :=
  ⟨h.row, fun k hv => ⟨h.let_ k hv, (h.row.lt k hv).2⟩⟩
theorem RowK.form {w : World} {ok : Nat → Prop} {e size n : Nat} {v : Value} {xs : List Value} (h : RowK w ok e size v n xs) : ∃ A c, v = .slice A n c := by
  rcases h.row.2 with ⟨hv, hn⟩ | ⟨g, cap, cur, hv, _⟩
  · exact ⟨none, 0, by rw [hv, hn]⟩
  · exact ⟨_, cap, hv⟩
theorem RowK.at {w : World} {ok : Nat → Prop} {e size n c : Nat} {A : Option Addr} {xs : List Value} (h : RowK w ok e size (.slice A n c) n xs) {k q : Nat} (hk : k < n) (hq : q < size) :
    ∃ g, A = some ⟨g, 0, none⟩ ∧ ok g ∧ w.cell? ⟨g, k * size + q, none⟩ = xs[k * size + q]? := by
  rcases h.row.2 with ⟨hv, hn⟩ | ⟨g, cap, cur, hv, _⟩
  · omega
  · injection hv with h1 h2 h3
    subst h1
    have hr := h.row
    refine ⟨g, rfl, h.let_ g rfl, hr.cellAt (k * size + q) ?_⟩
    have h4 : (k + 1) * size ≤ n * size := Nat.mul_le_mul hk (Nat.le_refl _)
    rw [Nat.add_mul, Nat.one_mul] at h4
    omega
theorem RowK.made {w : World} {e size : Nat} (ok : Nat → Prop) (h : ok w.heap.size) : RowK (w.alloc (.cells #[] e)) ok e size (.slice (some ⟨w.heap.size, 0, none⟩) 0 0) 0 [] :=
  ⟨⟨by simp, .inr ⟨w.heap.size, 0, #[], rfl, Nat.zero_le _, heap_alloc_new w _, Nat.le_refl _, by simp [maxLen], by simp, by simp⟩⟩, fun k hk => by
    have : w.heap.size = k := by simpa [Value.ownBlock] using hk
    rw [← this]; exact h⟩
section
variable {P : Program} {ops : Array Oper} {rest : List Oper} {o : Oper} {a : Act} {Q : Exit → Act → World → Prop}
theorem wpList_appk {W : World} {ok : Nat → Prop} (hgd : o.guard = none) (s x : Operand) (t e size bytes : Nat) (z : Value)
    (ho : o.op = .call { callee := .builtin .append, args := #[s, x], argTypes := #[t, t] })
    (ht : P.underlying t = some (.slice e)) (hinfo : (P.info? e).map (fun i => (i.zero, i.size, i.bytes)) = some (some z, size, bytes)) (hz : z.cells.size = size) (hs0 : 0 < size) (hb0 : bytes ≤ 100)
    (v : Value) (n : Nat) (xs : List Value) (news : Array Value) (hs : a.eval s = v) (hx : a.eval x = .slice (some ⟨W.heap.size, 0, none⟩) 1 1) (hn : news.size = size) (h1 : ∀ u ∈ news.toList, u.oneCell' = true)
    (HO : RowK W ok e size v n xs) (hl : n ≤ 1000000)
    (h : ∀ v1 w1, RowK w1 (fun k => v.ownBlock = some k ∨ W.heap.size ≤ k) e size v1 (n + 1) (xs ++ news.toList) → W.grownBy w1 v.ownBlock → wpList P ops Q rest (a.put o.dst v1) w1) :
    wpList P ops Q (o :: rest) a (W.alloc (.cells news e)) := by
  obtain ⟨i0, hi, hzz⟩ := Option.map_eq_some_iff.1 hinfo
  simp only [Prod.mk.injEq] at hzz
  obtain ⟨hz0, hz1, hz2⟩ := hzz
  have hbb : (n + 1) * bytes ≤ 1000001 * 100 := Nat.mul_le_mul (by omega) hb0
  refine wpList_append_own_at _ hgd s x t ho 0 e i0 z size bytes ht hi hz0 hz1 hz2 hz hs0 v n xs hs (HO.row.alloc _) ⟨W.heap.size, 0, none⟩ 1 1 news.toList hx (by simp [hn])
    (fun j u hj => World.news_of_block (cs := news) (t := e) (fr := (0, 0)) (heap_alloc_new W _) j u hj) h1 (by simp only [maxLen]; omega) (by omega) (Nat.zero_le _) ?_
  intro v1 w1 hown hg _ hat
  refine h v1 w1 ⟨hown, fun k hk => ?_⟩ (World.grownBy.trans (World.grownBy_alloc W _ _) hg)
  rcases hat with hat | hat
  · exact .inl (hat ▸ hk)
  · rw [hat] at hk
    cases hk
    exact .inr (by simp)
end
def nums (ns : List Nat) : List Value := ns.map (fun (n : Nat) => Value.int .i64 (n : Int))
theorem nums_at {ns : List Nat} {k : Nat} (h : k < ns.length) : (nums ns)[k]? = some (.int .i64 ((ns[k]'h : Nat) : Int)) := by simp [nums, h]
theorem info3 : (Tryd.prog.info? 3).map (fun i => (i.zero, i.size, i.bytes)) = some (some (.int .i64 0), 1, 8) := by kernel_rfl
theorem info53 : (Tryd.prog.info? 53).map (fun i => (i.zero, i.size, i.bytes)) = some (some (.agg #[.int .u8 0, .int .i64 0]), 2, 16) := by kernel_rfl
def WoRel (w : World) (ns : List Nat) (o i : Value) (wr : World) : Prop :=
  ∃ (k : Nat) (ms : List Nat), k ≤ ns.length ∧ i = .int .i64 (k : Int) ∧ RowK wr (fun j => w.heap.size ≤ j) 3 1 o ms.length (nums ms) ∧ ms.length ≤ k ∧ (∀ m ∈ ms, m ∈ ns) ∧ w.grownBy wr none
set_option maxHeartbeats 1600000 in
set_option maxRecDepth 100000 in
theorem without_any (w : World) (ok : Nat → Prop) (v : Value) (ns : List Nat) (x : Nat) (h : RowK w ok 3 1 v ns.length (nums ns)) (hl : ns.length ≤ 1000) :
    Calls Tryd.prog 24 #[v, .int .i64 (x : Int)] w fun e w' => ∃ (v' : Value) (ms : List Nat), e = .returned v' ∧ RowK w' (fun j => w.heap.size ≤ j) 3 1 v' ms.length (nums ms) ∧ ms.length ≤ ns.length ∧ (∀ m ∈ ms, m ∈ ns) ∧ w.grownBy w' none := by
  obtain ⟨A, c, rfl⟩ := h.form
  have H := Lib.hid h
  clear h
  go_enter Tryd.func24, Tryd.ntmps24
  go_wp2_with fail
  go_loopw [5, 11] (fun o i wr => WoRel w ns o i wr) (fun _ i _ => ns.length - (intOf i).toNat)
  case atStart => exact ⟨0, [], Nat.zero_le _, rfl, RowK.made (fun j => w.heap.size ≤ j) (Nat.le_refl _), Nat.le_refl _, by simp, World.grownBy_alloc w _ none⟩
  case round =>
    obtain ⟨k, ms, hk, rfl, hr, hml, hmm, hg⟩ := hrel
    obtain ⟨Ao, co, rfl⟩ := hr.form
    have HR := Lib.hid hr
    have HM := Lib.hid hmm
    have HG := Lib.hid hg
    by_cases hlt : k < ns.length
    · obtain ⟨g, rfl, _, hc⟩ := H.out.at (k := k) (q := 0) hlt (by omega)
      rw [show k * 1 + 0 = k by omega, nums_at hlt] at hc
      have hc' : wr.cell? ⟨g, k, none⟩ = some (.int .i64 ((ns[k]'hlt : Nat) : Int)) := (cell_of_block (hg.block g (World.block_lt_of_cell? w _ hc) (by simp))).trans hc
      have HMEM := Lib.hid (show ns[k]'hlt ∈ ns from List.getElem_mem hlt)
      generalize ns[k]'hlt = y at *
      clear hr hmm hg hc
      by_cases hyx : y = x
      · subst hyx
        go_wp2_with fail
        go_roundw
        case rel => exact ⟨k + 1, ms, hlt, by go_num, HR.out, by omega, HM.out, HG.out⟩
        case measure => simp [intOf]; omega
      · have hd : ((y : Int) != (x : Int)) = true := by simp; omega
        clear hyx
        go_wp2_with (at_builtin; refine wpList_appk rfl _ _ 23 3 1 8 (.int .i64 0) rfl Tryd.underlying23 info3 rfl (by decide) (by decide) (.slice Ao ms.length co) ms.length (nums ms) #[.int .i64 (y : Int)] rfl rfl rfl (by intro u hu; simp at hu; subst hu; rfl) HR.out (by omega) ?_)
        intro v1 w1 ho hg1
        have HO := Lib.hid ho
        have HG1 := Lib.hid hg1
        clear ho hg1 hc'
        go_wp2_with fail
        go_roundw
        case rel =>
          refine ⟨k + 1, ms ++ [y], hlt, by go_num, ?_, by simp; omega, ?_, ?_⟩
          · have h := HO.out.mono (ok' := fun j => w.heap.size ≤ j) (fun j hj => by
              rcases hj with hj | hj
              · exact HR.out.let_ j hj
              · have := HG.out.size; omega)
            simpa [nums] using h
          · intro m hm
            rcases List.mem_append.1 hm with hm | hm
            · exact HM.out m hm
            · simp at hm; subst hm; exact HMEM.out
          · have hg1 := HG1.out
            exact ⟨hg1.os.trans HG.out.os, hg1.tape.trans HG.out.tape, hg1.output.trans HG.out.output, Nat.le_trans HG.out.size hg1.size, fun j hj hn => (hg1.block j (Nat.lt_of_lt_of_le hj HG.out.size) (fun e => by have := HR.out.let_ j e.symm; omega)).trans (HG.out.block j hj hn)⟩
        case measure => simp [intOf]; omega
    · have hkm : k = ns.length := by omega
      clear hr hmm hg
      go_wp2_with fail
      go_ret
      exact ⟨_, ms, rfl, HR.out, by omega, HM.out, HG.out⟩
theorem conv_at (b : Int) (V : World) (g : Nat) (h : V.cell? ⟨g, 0, none⟩ = some (.int .u8 b)) : (convert 22 9 (.slice (some ⟨g, 0, none⟩) 1 1)).run Tryd.prog V = .ok (.string (strOfNums [b])) V := by
  refine run_convert_bytes_arg (P := Tryd.prog) _ 22 5 Tryd.underlying22 Tryd.underlying5 g 0 1 1 [b] rfl (fun i hi => ?_) 9 Tryd.underlying9
  obtain rfl : i = 0 := by omega
  simpa using h
theorem byte_kept {V w2 : World} {g : Nat} {b : Int} (hg : V.grownBy w2 none) (h : V.cell? ⟨g, 0, none⟩ = some (.int .u8 b)) : w2.cell? ⟨g, 0, none⟩ = some (.int .u8 b) :=
  (cell_of_block' (hg.block g (World.block_lt_of_cell? V _ h) (by simp))).trans h
theorem new_byte (W : World) (b : Int) : ((W.alloc (.cells #[.int .u8 b] 5)).drew).cell? ⟨W.heap.size, 0, none⟩ = some (.int .u8 b) := by simp
def EvL (es : List Value) (n : Nat) : Prop := ∀ j, j < n → ∃ (b : Int) (x : Nat), x ≤ 9999 ∧ es[j * 2]? = some (.int .u8 b) ∧ es[j * 2 + 1]? = some (.int .i64 (x : Int))
def TxRel (w : World) (n : Nat) (o i : Value) (wr : World) : Prop :=
  ∃ (k : Nat) (t : ByteArray), k ≤ n ∧ i = .int .i64 (k : Int) ∧ o = .string t ∧ t.size ≤ 6 * k ∧ (0 < k → 1 ≤ t.size) ∧ w.grownBy wr none
set_option maxHeartbeats 1600000 in
set_option maxRecDepth 100000 in
theorem evtext_any (w : World) (ok : Nat → Prop) (v : Value) (n : Nat) (es : List Value) (h : RowK w ok 53 2 v n es) (he : EvL es n) (hl : n ≤ 1000) :
    Calls Tryd.prog 25 #[v] w fun e w' => ∃ t : ByteArray, e = .returned (.string t) ∧ 1 ≤ t.size ∧ t.size ≤ 6001 ∧ w.grownBy w' none := by
  obtain ⟨A, c, rfl⟩ := h.form
  have H := Lib.hid h
  have HE := Lib.hid he
  clear h he
  go_enter Tryd.func25, Tryd.ntmps25
  go_wp2_with fail
  go_loopw [3, 8] (fun o i wr => TxRel w n o i wr) (fun _ i _ => n - (intOf i).toNat)
  case atStart => exact ⟨0, ⟨#[]⟩, Nat.zero_le _, rfl, rfl, Nat.le_refl _, by omega, World.grownBy.refl _ _⟩
  case round =>
    obtain ⟨k, t, hk, rfl, rfl, ht, ht1, hg⟩ := hrel
    have HG := Lib.hid hg
    have HT1 := Lib.hid ht1
    by_cases hlt : k < n
    · obtain ⟨b, x, hx, h0, h1⟩ := HE.out k hlt
      obtain ⟨g, rfl, _, hc0⟩ := H.out.at (k := k) (q := 0) hlt (by omega)
      obtain ⟨g', e', _, hc1⟩ := H.out.at (k := k) (q := 1) hlt (by omega)
      injection e' with e'; injection e' with e'; subst e'
      rw [show k * 2 + 0 = k * 2 by omega, h0] at hc0
      rw [h1] at hc1
      have hc0' := (cell_of_block (i := k * 2) (hg.block g (World.block_lt_of_cell? w _ hc0) (by simp))).trans hc0
      have hc1' := (cell_of_block (i := k * 2 + 1) (hg.block g (World.block_lt_of_cell? w _ hc0) (by simp))).trans hc1
      clear hg h0 h1 hc0 hc1 ht1
      go_upto_if 14 with fail
      go_cut [3] (fun v3 wc => ∃ t' : ByteArray, v3 = .string t' ∧ t'.size ≤ 6 * k + 1 ∧ wc = wr.alloc (.cells #[.int .u8 b, .int .i64 (x : Int)] 53))
      case first =>
        go_wp2_with fail
        all_goals
          go_meet
          first
            | exact ⟨_, rfl, by rw [ByteArray.size_append, show (ByteArray.mk #[32]).size = 1 from rfl]; omega, rfl⟩
            | exact ⟨t, rfl, by omega, rfl⟩
      case rest =>
        obtain ⟨t', rfl, ht', rfl⟩ := hcut
        generalize hW : wr.alloc (.cells #[.int .u8 b, .int .i64 (x : Int)] 53) = W
        have hcell : W.heap[wr.heap.size]? = some (.cells #[.int .u8 b, .int .i64 (x : Int)] 53 (0, 0)) := by rw [← hW]; exact heap_alloc_new wr _
        have n0 : W.cell? ⟨wr.heap.size, 0, none⟩ = some (.int .u8 b) := by simp [World.cell?, hcell]
        have n1 : W.cell? ⟨wr.heap.size, 1, none⟩ = some (.int .i64 (x : Int)) := by simp [World.cell?, hcell]
        have HCELL := Lib.hid hcell
        have HGW := Lib.hid (show w.grownBy W none by rw [← hW]; exact World.grownBy.trans HG.out (World.grownBy_alloc wr _ none))
        have hlt2 : wr.heap.size < W.heap.size := (Array.getElem?_eq_some_iff.1 hcell).1
        clear hW hcell hc0' hc1'
        go_wp2_with fail
        have hcv := conv_at b
        have hsz : (strOfNums [b]).size = 1 := strOfNums_size [b]
        generalize strOfNums [b] = sb at *
        go_region_with (
          (go_at_call 18
           refine Calls.mono (dec_any _ x hx) ?_
           rintro e w2 ⟨t2, ht2, rfl, hg2⟩
           have hgx : W.grownBy w2 none := by first | exact World.grownBy.trans (heap_grown (World.grownBy.refl W none) (by rfl) (by rfl) (by rfl) (by rfl)) hg2 | exact World.grownBy.trans (heap_grown (World.grownBy_alloc W (.cells #[.int .u8 b] 5) none) (by rfl) (by rfl) (by rfl) (by rfl)) hg2
           have hc2 := (hgx.block _ (Array.getElem?_eq_some_iff.1 HCELL.out).1 (by simp)).trans HCELL.out
           have p0 : w2.cell? ⟨wr.heap.size, 0, none⟩ = some (.int .u8 b) := by simp [World.cell?, hc2]
           have p1 : w2.cell? ⟨wr.heap.size, 1, none⟩ = some (.int .i64 (x : Int)) := by simp [World.cell?, hc2]
           first | have p2 := byte_kept hg2 (new_byte W b) | skip
           have HGX := Lib.hid hgx
           clear hgx hc2 hg2))
        all_goals
          have hsx : (t' ++ sb ++ t2).size ≤ 6 * (k + 1) ∧ 1 ≤ (t' ++ sb ++ t2).size := by simp only [ByteArray.size_append]; omega
          generalize t' ++ sb ++ t2 = tx at *
          clear hcv p0 p1
          go_wp2_with fail
          go_roundw
          case rel => exact ⟨k + 1, tx, hlt, by go_num, rfl, hsx.1, fun _ => hsx.2, by first | exact World.grownBy.trans HGW.out HGX.out | exact World.grownBy.trans HGW.out (World.grownBy.trans HGX.out (World.grownBy_alloc w2 (.cells #[.int .u8 b] 5) none))⟩
          case measure => simp [intOf]; omega
    · have hkm : k = n := by omega
      clear hg ht1
      by_cases hz : t.size = 0
      · have hE : t.toList.isEmpty = true := by rw [empty_size']; simpa using hz
        clear hz
        go_wp2_with fail
        go_ret
        exact ⟨_, rfl, by decide, by decide, HG.out⟩
      · have hE : t.toList.isEmpty = false := by rw [empty_size']; simpa using hz
        have HZ := Lib.hid hz
        clear hz
        go_wp2_with fail
        go_ret
        exact ⟨_, rfl, by have := HZ.out; omega, by omega, HG.out⟩
end Go.Proofs.YtojhdfdhfajjjaaDoor
namespace Go.Proofs.YtojhdfdhfajjjaaDoor
set_option linter.unusedVariables false
set_option linter.unusedSimpArgs false
open Go.RowKit Pl
theorem DRd.row {w wr w1 : World} {c : Nat} {v : Value} {n : Nat} {xs : Nat → Int} {q0 q : Nat} {r : Option Nat} (h0 : DRd w c v n xs q0) (hg : w.grownBy wr (some c)) (hd : DRd wr c v n xs q) (g1 : wr.grownBy w1 r) (hr : ∀ j, r = some j → w.heap.size ≤ j) :
  DRd w1 c v n xs q ∧ w.grownBy w1 (some c) := by
 have hc := h0.lt
 have hG : w.grownBy w1 (some c) := ⟨g1.os.trans hg.os, g1.tape.trans hg.tape, g1.output.trans hg.output, Nat.le_trans hg.size g1.size, fun j hj hn => (g1.block j (Nat.lt_of_lt_of_le hj hg.size) (fun e => by have := hr j e.symm; omega)).trans (hg.block j hj hn)⟩
 refine ⟨⟨(g1.block c hd.lt (fun e => by have := hr c e.symm; omega)).trans hd.1, h0.2.of hG.size fun g hgc hlt => ⟨hG.block g hlt (fun e => hgc (Option.some.inj e)), hgc⟩⟩, hG⟩
structure Two (w wr : World) (a6 : Value) (k : Nat) (es : List Value) (a8 : Value) (ns : List Nat) : Prop where
 l : RowK wr (fun j => w.heap.size ≤ j) 53 2 a6 k es
 e : EvL es k
 a : RowK wr (fun j => w.heap.size ≤ j ∧ some j ≠ a6.ownBlock) 3 1 a8 ns.length (nums ns)
section
variable {w wr w1 : World} {a6 a8 v1 : Value} {k : Nat} {es : List Value} {ns : List Nat}
theorem Two.len (h : Two w wr a6 k es a8 ns) : es.length = k * 2 := h.l.row.1
theorem Two.grown {r : Option Nat} (h : Two w wr a6 k es a8 ns) (hg : wr.grownBy w1 r) (hr : ∀ j, r = some j → j < w.heap.size) : Two w w1 a6 k es a8 ns :=
 ⟨h.l.keep (fun j hj hlt => hg.block j hlt (fun e => by have := hr j e.symm; have := h.l.let_ j hj; omega)), h.e, h.a.keep (fun j hj hlt => hg.block j hlt (fun e => by have := hr j e.symm; have := (h.a.let_ j hj).1; omega))⟩
theorem Two.alive {y : Nat} (h : Two w wr a6 k es a8 ns) (hs : w.heap.size ≤ wr.heap.size) (ho : RowK w1 (fun j => a8.ownBlock = some j ∨ wr.heap.size ≤ j) 3 1 v1 (ns.length + 1) (nums ns ++ [.int .i64 (y : Int)])) (hg : wr.grownBy w1 a8.ownBlock) : Two w w1 a6 k es v1 (ns ++ [y]) := by
 refine ⟨h.l.keep (fun j hj hlt => hg.block j hlt (fun e => (h.a.let_ j e.symm).2 hj.symm)), h.e, ?_⟩
 have h2 := ho.mono (ok' := fun j => w.heap.size ≤ j ∧ some j ≠ a6.ownBlock) (fun j hj => by
  rcases hj with hj | hj
  ·exact h.a.let_ j hj
  ·exact ⟨by omega, fun e => by have := (h.l.bound.let_ j e.symm).2; omega⟩)
 simpa [nums] using h2
theorem Two.list {b : Int} {x : Nat} (h : Two w wr a6 k es a8 ns) (hs : w.heap.size ≤ wr.heap.size) (hx : x ≤ 9999) (ho : RowK w1 (fun j => a6.ownBlock = some j ∨ wr.heap.size ≤ j) 53 2 v1 (k + 1) (es ++ [.int .u8 b, .int .i64 (x : Int)])) (hg : wr.grownBy w1 a6.ownBlock) : Two w w1 v1 (k + 1) (es ++ [.int .u8 b, .int .i64 (x : Int)]) a8 ns := by
 have hl := h.len
 refine ⟨ho.mono (fun j hj => ?_), ?_, ?_⟩
 ·rcases hj with hj | hj
  ·exact h.l.let_ j hj
  ·omega
 ·intro j hj
  by_cases hjk : j < k
  ·obtain ⟨b', x', h1, h2, h3⟩ := h.e j hjk
   exact ⟨b', x', h1, by rw [List.getElem?_append_left (by omega)]; exact h2, by rw [List.getElem?_append_left (by omega)]; exact h3⟩
  ·obtain rfl : j = k := by omega
   refine ⟨b, x, hx, ?_, ?_⟩
   ·rw [List.getElem?_append_right (by omega), hl]; simp
   ·rw [List.getElem?_append_right (by omega), hl]; simp
 ·have h1 := (h.a.bound.keep (w' := w1) (fun j hj hlt => hg.block j hlt (fun e => (h.a.let_ j hj).2 e)))
  refine h1.mono (fun j hj => ⟨hj.1.1, fun e => ?_⟩)
  rcases ho.let_ j e.symm with h2 | h2
  ·exact hj.1.2 h2.symm
  ·have := hj.2; omega
theorem Two.without {ms : List Nat} (h : Two w wr a6 k es a8 ns) (hs : w.heap.size ≤ wr.heap.size) (ho : RowK w1 (fun j => wr.heap.size ≤ j) 3 1 v1 ms.length (nums ms)) (hg : wr.grownBy w1 none) : Two w w1 a6 k es v1 ms :=
 ⟨h.l.keep (fun j hj hlt => hg.block j hlt (by simp)), h.e, ho.mono (fun j hj => ⟨by omega, fun e => by have := (h.l.bound.let_ j e.symm).2; omega⟩)⟩
end
def GRel (w : World) (c : Nat) (v : Value) (n : Nat) (xs : Nat → Int) (q0 m : Nat) (a6 a7 a8 i : Value) (wr : World) : Prop :=
 ∃ (k q' mk : Nat) (ns : List Nat) (es : List Value), k ≤ m ∧ i = .int .i64 (k : Int) ∧ a7 = .int .i64 (mk : Int) ∧ mk ≤ k ∧ q0 ≤ q' ∧ q' ≤ q0 + 3 * k ∧ DRd wr c v n xs q' ∧ w.grownBy wr (some c) ∧
  Two w wr a6 k es a8 ns ∧ ns.length ≤ k ∧ ∀ x ∈ ns, x ≤ 9
theorem Two.start (w wc : World) (hs : w.heap.size ≤ wc.heap.size) : Two w ((wc.alloc (.cells #[] 53)).alloc (.cells #[] 3)) (.slice (some ⟨wc.heap.size, 0, none⟩) 0 0) 0 [] (.slice (some ⟨wc.heap.size + 1, 0, none⟩) 0 0) [] := by
 have h1 : RowK (wc.alloc (.cells #[] 53)) (fun j => w.heap.size ≤ j) 53 2 (.slice (some ⟨wc.heap.size, 0, none⟩) 0 0) 0 [] := RowK.made _ hs
 have e : (wc.alloc (.cells #[] 53)).heap.size = wc.heap.size + 1 := by simp
 have h2 : RowK ((wc.alloc (.cells #[] 53)).alloc (.cells #[] 3)) (fun j => w.heap.size ≤ j ∧ some j ≠ (Value.slice (some ⟨wc.heap.size, 0, none⟩) 0 0).ownBlock) 3 1 (.slice (some ⟨(wc.alloc (.cells #[] 53)).heap.size, 0, none⟩) 0 0) 0 [] :=
  RowK.made _ ⟨by omega, by rw [e]; simp [Value.ownBlock]⟩
 rw [e] at h2
 exact ⟨h1.keep (fun j hj hlt => (World.grownBy_alloc _ _ none).block j hlt (by simp)), fun j hj => by omega, h2⟩
theorem six_num (j : Nat) (h : j < 6) : ∃ m : Nat, m ≤ 9 ∧ ([5, 7, 3, 9, 1, 0] : List Int).getD j 0 = (m : Int) := by
 rcases (show j = 0 ∨ j = 1 ∨ j = 2 ∨ j = 3 ∨ j = 4 ∨ j = 5 by omega) with rfl | rfl | rfl | rfl | rfl | rfl
 ·exact ⟨5, by omega, rfl⟩
 ·exact ⟨7, by omega, rfl⟩
 ·exact ⟨3, by omega, rfl⟩
 ·exact ⟨9, by omega, rfl⟩
 ·exact ⟨1, by omega, rfl⟩
 ·exact ⟨0, by omega, rfl⟩
set_option maxHeartbeats 1600000 in
set_option maxRecDepth 100000 in
theorem goodev_any (w : World) (c : Nat) (v : Value) (n : Nat) (xs : Nat → Int) (q : Nat) (hd : DRd w c v n xs q) (hq : q ≤ 10000) :
  Calls Tryd.prog 15 #[.pointer (some ⟨c, 0, none⟩)] w (DrawPost c v n xs w q 1 840000 2000) := by
 have HD := Lib.hid hd
 clear hd
 go_enter Tryd.func15, Tryd.ntmps15
 go_wp2_with fail
 refine (pick_any w c v n xs q 2 HD.out (by omega) (by omega) (by omega)).mono ?_
 rintro e w1 ⟨j, hj, rfl, hd1, hg1⟩
 have HD1 := Lib.hid hd1
 have HG1 := Lib.hid hg1
 clear hd1 hg1
 go_upto_if 13 with fail
 go_cut [] (fun wc => ∃ q', q ≤ q' ∧ q' ≤ q + 1700 ∧ DRd wc c v n xs q' ∧ w.grownBy wc (some c))
 case first =>
  by_cases hz : j = 0
  ·have hz' : ((j : Int) == 0) = true := by simp; omega
   clear hz hj
   go_wp2_with fail
   refine (good_any w1 c v n xs (q + 1) HD1.out (by omega)).mono ?_
   rintro e w2 ⟨p, q2, hp1, hp2, hq1, hq2, rfl, hd2, hg2⟩
   have HD2 := Lib.hid hd2
   have HG2 := Lib.hid (World.grownBy.trans HG1.out hg2)
   clear hd2 hg2
   go_wp2_with fail
   refine (choices_any w2 c v n xs q2 p HD2.out (by omega) (by omega)).mono ?_
   rintro e w3 ⟨ch, q3, hc1, hc2, hq3, hq4, rfl, hd3, hg3⟩
   have HD3 := Lib.hid hd3
   have HG3 := Lib.hid (World.grownBy.trans HG2.out hg3)
   clear hd3 hg3
   go_wp2_with fail
   refine (events_any p ch w3 (by omega) (by omega)).mono ?_
   rintro e w4 ⟨t, x, rfl, hb4, ht, hx⟩
   have HD4 := Lib.hid (HD3.out.below hb4)
   have HG4 := Lib.hid (World.grownBy.trans HG3.out (grown_of hb4 (some c)))
   have HX := Lib.hid hx
   clear hb4 hx
   cases x
   ·go_wp2_with fail
    go_meet
    exact ⟨q3, by omega, by omega, HD4.out, HG4.out⟩
   ·go_wp2_with fail
    go_ret
    exact ⟨t, q3, by have h := HX.out; simpa using h, ht, by omega, by omega, rfl, HD4.out, HG4.out⟩
  ·have hz' : ((j : Int) == 0) = false := by simp; omega
   clear hz hj
   go_wp2_with fail
   go_meet
   exact ⟨q + 1, by omega, by omega, HD1.out, HG1.out⟩
 case rest =>
  obtain ⟨q1, hq1, hq2, hd, hg⟩ := hcut
  have HDc := Lib.hid hd
  have HGc := Lib.hid hg
  clear hd hg HD1 HG1 hj j
  go_wp2_with fail
  have h0 := Two.start w wc HGc.out.size
  have hg0 : w.grownBy ((wc.alloc (.cells #[] 53)).alloc (.cells #[] 3)) (some c) := World.grownBy.trans HGc.out (World.grownBy.trans (World.grownBy_alloc wc _ _) (World.grownBy_alloc _ _ _))
  have hd0 : DRd ((wc.alloc (.cells #[] 53)).alloc (.cells #[] 3)) c v n xs q1 := (HDc.out.grown (World.grownBy_alloc wc _ none) (by simp)).grown (World.grownBy_alloc _ _ none) (by simp)
  have hsz : ((wc.alloc (.cells #[] 53)).alloc (.cells #[] 3)).heap.size = wc.heap.size + 1 + 1 := by simp
  generalize (wc.alloc (.cells #[] 53)).alloc (.cells #[] 3) = W3 at *
  generalize (wc.heap.size + 1 + 1) = z3 at *
  subst hsz
  generalize (Value.slice (some ⟨wc.heap.size, 0, none⟩) 0 0) = A6 at *
  generalize (Value.slice (some ⟨wc.heap.size + 1, 0, none⟩) 0 0) = A8 at *
  have H0 := Lib.hid h0
  have HD0 := Lib.hid hd0
  have HG0 := Lib.hid hg0
  clear h0 hd0 hg0
  have hB := World.grownBy_alloc W3 (.cells #[.int .i64 5, .int .i64 7, .int .i64 3, .int .i64 9, .int .i64 1, .int .i64 0] 3) (some c)
  have hBD := HD0.out.grown (World.grownBy_alloc W3 (.cells #[.int .i64 5, .int .i64 7, .int .i64 3, .int .i64 9, .int .i64 1, .int .i64 0] 3) none) (by simp)
  refine (num_any _ c v n xs q1 W3.heap.size 6 6 (fun i => ([5, 7, 3, 9, 1, 0] : List Int).getD i 0) hBD (by omega) (by omega) (by omega) (ISl_alloc W3 [5, 7, 3, 9, 1, 0] 3) (Nat.ne_of_gt HD0.out.lt)).mono ?_
  rintro e w1 ⟨j, hj, rfl, hd1, hg1⟩
  obtain ⟨m, hm9, hm⟩ := six_num j hj
  rw [hm]
  have HD1 := Lib.hid hd1
  have hgg : W3.grownBy w1 (some c) := World.grownBy.trans hB hg1
  have H1 := Lib.hid (H0.out.grown hgg (fun j e => by have := HD.out.lt; have := Option.some.inj e; omega))
  have HG1 := Lib.hid (World.grownBy.trans HG0.out hgg)
  clear hd1 hg1 hB hBD hj hm j hgg
  go_wp2_with fail
  go_loopw [6, 7, 8, 31] (fun a6 a7 a8 i wr => GRel w c v n xs (q1 + 1) m a6 a7 a8 i wr) (fun _ _ _ i _ => m - (intOf i).toNat)
  case atStart => exact ⟨0, q1 + 1, 0, [], [], Nat.zero_le _, rfl, rfl, Nat.le_refl _, Nat.le_refl _, Nat.le_refl _, HD1.out, HG1.out, H1.out, Nat.le_refl _, by simp⟩
  case round =>
   obtain ⟨k, q2, mk, ns, es, hk, rfl, rfl, hmk, hq3, hq4, hd, hg, h2, hnl, hn9⟩ := hrel
   obtain ⟨B6, c6, rfl⟩ := h2.l.form
   obtain ⟨B8, c8, rfl⟩ := h2.a.form
   have HDr := Lib.hid hd
   have HGr := Lib.hid hg
   have HTr := Lib.hid h2
   have HN9 := Lib.hid hn9
   clear hd hg h2 hn9
   by_cases hlt : k < m
   ·go_wp2_with fail
    refine (pick_any wr c v n xs q2 4 HDr.out (by omega) (by omega) (by omega)).mono ?_
    rintro e w2 ⟨j, hj, rfl, hd2, hg2⟩
    have HD2 := Lib.hid hd2
    have H2 := Lib.hid (HTr.out.grown hg2 (fun j e => by have := HD.out.lt; have := Option.some.inj e; omega))
    have HG2 := Lib.hid (World.grownBy.trans HGr.out hg2)
    have HS2 := Lib.hid HG2.out.size
    clear hd2 hg2
    by_cases hj2 : j < 2
    ·have hb : decide ((j : Int) < 2) = true := by simp; omega
     clear hj2 hj
     go_wp2_with (at_builtin; refine wpList_appk rfl _ _ 23 3 1 8 (.int .i64 0) rfl Tryd.underlying23 info3 rfl (by decide) (by decide) (.slice B8 ns.length c8) ns.length (nums ns) #[.int .i64 ((mk : Int) + 1)] rfl rfl rfl (by intro u hu; simp at hu; subst hu; rfl) H2.out.a (by omega) ?_)
     intro v3 w3 ho3 hg3
     have hmk1 := Lib.hid (show (mk : Int) + 1 = ((mk + 1 : Nat) : Int) by omega)
     obtain ⟨B9, c9, rfl⟩ := ho3.form
     have H3 := Lib.hid (Two.alive (y := mk + 1) H2.out HS2.out (by rw [← hmk1.out]; exact ho3) hg3)
     have hdr := DRd.row HD.out HG2.out HD2.out hg3 (fun j hj => (H2.out.a.let_ j hj).1)
     have HD3 := Lib.hid hdr.1
     have HG3 := Lib.hid hdr.2
     clear ho3 hg3 hdr
     go_wp2_with (at_builtin; refine wpList_appk rfl _ _ 45 53 2 16 (.agg #[.int .u8 0, .int .i64 0]) rfl Tryd.underlying45 info53 rfl (by decide) (by decide) (.slice B6 k c6) k es #[.int .u8 43, .int .i64 ((mk : Int) + 1)] rfl rfl rfl (by intro u hu; simp at hu; rcases hu with rfl | rfl <;> rfl) H3.out.l (by omega) ?_)
     intro v4 w4 ho4 hg4
     obtain ⟨B7, c7, rfl⟩ := ho4.form
     have H4 := Lib.hid (Two.list (b := 43) (x := mk + 1) H3.out HG3.out.size (by omega) (by rw [← hmk1.out]; exact ho4) hg4)
     have hdr := DRd.row HD.out HG3.out HD3.out hg4 (fun j hj => H3.out.l.let_ j hj)
     have HD4 := Lib.hid hdr.1
     have HG4 := Lib.hid hdr.2
     clear ho4 hg4 hdr hmk1
     go_wp2_with fail
     go_roundw
     case rel =>
      refine ⟨k + 1, q2 + 1, mk + 1, ns ++ [mk + 1], _, hlt, by go_num, by go_num, by omega, by omega, by omega, HD4.out, HG4.out, by simpa using H4.out, by simp; omega, ?_⟩
      intro x hx
      rcases List.mem_append.1 hx with hx | hx
      ·exact HN9.out x hx
      ·simp at hx; omega
     case measure => simp [intOf]; omega
    ·have hb : decide ((j : Int) < 2) = false := by simp; omega
     by_cases hn0 : ns.length = 0
     ·have hb2 : ((ns.length : Int) == 0) = true := by rw [beq_iff_eq]; omega
      clear hj2 hj hn0
      go_wp2_with (at_builtin; refine wpList_appk rfl _ _ 23 3 1 8 (.int .i64 0) rfl Tryd.underlying23 info3 rfl (by decide) (by decide) (.slice B8 ns.length c8) ns.length (nums ns) #[.int .i64 ((mk : Int) + 1)] rfl rfl rfl (by intro u hu; simp at hu; subst hu; rfl) H2.out.a (by omega) ?_)
      intro v3 w3 ho3 hg3
      have hmk1 := Lib.hid (show (mk : Int) + 1 = ((mk + 1 : Nat) : Int) by omega)
      obtain ⟨B9, c9, rfl⟩ := ho3.form
      have H3 := Lib.hid (Two.alive (y := mk + 1) H2.out HS2.out (by rw [← hmk1.out]; exact ho3) hg3)
      have hdr := DRd.row HD.out HG2.out HD2.out hg3 (fun j hj => (H2.out.a.let_ j hj).1)
      have HD3 := Lib.hid hdr.1
      have HG3 := Lib.hid hdr.2
      clear ho3 hg3 hdr
      go_wp2_with (at_builtin; refine wpList_appk rfl _ _ 45 53 2 16 (.agg #[.int .u8 0, .int .i64 0]) rfl Tryd.underlying45 info53 rfl (by decide) (by decide) (.slice B6 k c6) k es #[.int .u8 43, .int .i64 ((mk : Int) + 1)] rfl rfl rfl (by intro u hu; simp at hu; rcases hu with rfl | rfl <;> rfl) H3.out.l (by omega) ?_)
      intro v4 w4 ho4 hg4
      obtain ⟨B7, c7, rfl⟩ := ho4.form
      have H4 := Lib.hid (Two.list (b := 43) (x := mk + 1) H3.out HG3.out.size (by omega) (by rw [← hmk1.out]; exact ho4) hg4)
      have hdr := DRd.row HD.out HG3.out HD3.out hg4 (fun j hj => H3.out.l.let_ j hj)
      have HD4 := Lib.hid hdr.1
      have HG4 := Lib.hid hdr.2
      clear ho4 hg4 hdr hmk1
      go_wp2_with fail
      go_roundw
      case rel =>
       refine ⟨k + 1, q2 + 1, mk + 1, ns ++ [mk + 1], _, hlt, by go_num, by go_num, by omega, by omega, by omega, HD4.out, HG4.out, by simpa using H4.out, by simp; omega, ?_⟩
       intro x hx
       rcases List.mem_append.1 hx with hx | hx
       ·exact HN9.out x hx
       ·simp at hx; omega
      case measure => simp [intOf]; omega
     ·have hb2 : ((ns.length : Int) == 0) = false := by rw [beq_eq_false_iff_ne]; omega
      by_cases hj3 : j = 2
      ·have hb3 : ((j : Int) == 2) = true := by simp; omega
       clear hj2 hj hj3
       go_wp2_with fail
       refine (pick_any w2 c v n xs (q2 + 1) ns.length HD2.out (by omega) (by omega) (by omega)).mono ?_
       rintro e w3 ⟨j2, hj2, rfl, hd3, hg3⟩
       have hj2' : j2 < ns.length := by omega
       have H3 := Lib.hid (H2.out.grown hg3 (fun j e => by have := HD.out.lt; have := Option.some.inj e; omega))
       have HD3 := Lib.hid hd3
       have HG3 := Lib.hid (World.grownBy.trans HG2.out hg3)
       clear hd3 hg3 hj2
       obtain ⟨g, rfl, _, hc⟩ := H3.out.a.at (k := j2) (q := 0) hj2' (by omega)
       rw [show j2 * 1 + 0 = j2 by omega, nums_at hj2'] at hc
       have hx9 : ns[j2]'hj2' ≤ 9 := HN9.out _ (List.getElem_mem hj2')
       generalize ns[j2]'hj2' = x at *
       go_wp2_with (at_builtin; refine wpList_appk rfl _ _ 45 53 2 16 (.agg #[.int .u8 0, .int .i64 0]) rfl Tryd.underlying45 info53 rfl (by decide) (by decide) (.slice B6 k c6) k es #[.int .u8 46, .int .i64 (x : Int)] rfl rfl rfl (by intro u hu; simp at hu; rcases hu with rfl | rfl <;> rfl) H3.out.l (by omega) ?_)
       intro v4 w4 ho4 hg4
       obtain ⟨B7, c7, rfl⟩ := ho4.form
       have H4 := Lib.hid (Two.list (b := 46) (x := x) H3.out HG3.out.size (by omega) ho4 hg4)
       have hdr := DRd.row HD.out HG3.out HD3.out hg4 (fun j hj => H3.out.l.let_ j hj)
       have HD4 := Lib.hid hdr.1
       have HG4 := Lib.hid hdr.2
       clear ho4 hg4 hdr
       go_wp2_with fail
       go_roundw
       case rel => exact ⟨k + 1, q2 + 2, mk, ns, _, hlt, by go_num, rfl, by omega, by omega, by omega, HD4.out, HG4.out, by simpa using H4.out, by omega, HN9.out⟩
       case measure => simp [intOf]; omega
      ·have hb3 : ((j : Int) == 2) = false := by simp; omega
       clear hj2 hj hj3
       go_wp2_with fail
       refine (pick_any w2 c v n xs (q2 + 1) ns.length HD2.out (by omega) (by omega) (by omega)).mono ?_
       rintro e w3 ⟨j2, hj2, rfl, hd3, hg3⟩
       have hj2' : j2 < ns.length := by omega
       have H3 := Lib.hid (H2.out.grown hg3 (fun j e => by have := HD.out.lt; have := Option.some.inj e; omega))
       have HD3 := Lib.hid hd3
       have HG3 := Lib.hid (World.grownBy.trans HG2.out hg3)
       clear hd3 hg3 hj2
       obtain ⟨g, rfl, _, hc⟩ := H3.out.a.at (k := j2) (q := 0) hj2' (by omega)
       rw [show j2 * 1 + 0 = j2 by omega, nums_at hj2'] at hc
       have hx9 : ns[j2]'hj2' ≤ 9 := HN9.out _ (List.getElem_mem hj2')
       generalize ns[j2]'hj2' = x at *
       go_wp2_with fail
       refine (without_any w3 _ (.slice (some ⟨g, 0, none⟩) ns.length c8) ns x H3.out.a (by omega)).mono ?_
       rintro e w5 ⟨v5, ms, rfl, ho5, hml, hmm, hg5⟩
       obtain ⟨B5, c5, rfl⟩ := ho5.form
       have H5 := Lib.hid (Two.without H3.out HG3.out.size ho5 hg5)
       have HD5 := Lib.hid (HD3.out.grown hg5 (by simp))
       have HG5 := Lib.hid (World.grownBy.trans HG3.out (grown_any hg5 (some c)))
       have HMM := Lib.hid (fun y (hy : y ∈ ms) => HN9.out y (hmm y hy))
       clear ho5 hg5 hmm hc
       go_wp2_with (at_builtin; refine wpList_appk rfl _ _ 45 53 2 16 (.agg #[.int .u8 0, .int .i64 0]) rfl Tryd.underlying45 info53 rfl (by decide) (by decide) (.slice B6 k c6) k es #[.int .u8 45, .int .i64 (x : Int)] rfl rfl rfl (by intro u hu; simp at hu; rcases hu with rfl | rfl <;> rfl) H5.out.l (by omega) ?_)
       intro v4 w4 ho4 hg4
       obtain ⟨B7, c7, rfl⟩ := ho4.form
       have H4 := Lib.hid (Two.list (b := 45) (x := x) H5.out HG5.out.size (by omega) ho4 hg4)
       have hdr := DRd.row HD.out HG5.out HD5.out hg4 (fun j hj => H5.out.l.let_ j hj)
       have HD4 := Lib.hid hdr.1
       have HG4 := Lib.hid hdr.2
       clear ho4 hg4 hdr
       go_wp2_with fail
       go_roundw
       case rel => exact ⟨k + 1, q2 + 2, mk, ms, _, hlt, by go_num, rfl, by omega, by omega, by omega, HD4.out, HG4.out, by simpa using H4.out, by omega, HMM.out⟩
       case measure => simp [intOf]; omega
   ·obtain rfl : k = m := by omega
    go_wp2_with fail
    refine (evtext_any wr _ (.slice B6 k c6) k es HTr.out.l HTr.out.e (by omega)).mono ?_
    rintro e w6 ⟨t, rfl, ht1, ht2, hg6⟩
    have HD6 := Lib.hid (HDr.out.grown hg6 (by simp))
    have HG6 := Lib.hid (World.grownBy.trans HGr.out (grown_any hg6 (some c)))
    clear hg6
    go_wp2_with fail
    go_ret
    exact ⟨t, q2, ht1, by omega, by omega, by omega, rfl, HD6.out, HG6.out⟩
end Go.Proofs.YtojhdfdhfajjjaaDoor
