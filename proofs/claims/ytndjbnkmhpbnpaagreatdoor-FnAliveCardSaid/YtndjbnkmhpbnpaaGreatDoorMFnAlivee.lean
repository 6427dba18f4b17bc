/- MFnAlivee: texts of this proof, joined. -/
import Derived.Test.YtndjbnkmhpbnpaaGreatDoorCa
import Derived.Test.YtndjbnkmhpbnpaaGreatDoorCb
import Derived.Test.YtndjbnkmhpbnpaaGreatDoorCc
import Derived.Test.YtndjbnkmhpbnpaaGreatDoorCd
import Derived.Test.YtndjbnkmhpbnpaaGreatDoorCe
import Derived.Test.YtndjbnkmhpbnpaaGreatDoorCf
import Derived.Test.YtndjbnkmhpbnpaaGreatDoorCg
import Derived.Test.YtndjbnkmhpbnpaaGreatDoorCh
import Derived.Test.YtndjbnkmhpbnpaaGreatDoorCi
import Derived.Test.YtndjbnkmhpbnpaaGreatDoorCj
import Derived.Test.YtndjbnkmhpbnpaaGreatDoorCk
import Derived.Test.YtndjbnkmhpbnpaaGreatDoorCl
import Derived.Test.YtndjbnkmhpbnpaaGreatDoorMFnAlivea
import Derived.Test.YtndjbnkmhpbnpaaGreatDoorMFnAliveb
import Derived.Test.YtndjbnkmhpbnpaaGreatDoorMFnAlivec
import Derived.Test.YtndjbnkmhpbnpaaGreatDoorMFnAlived
import Derived.Deep.DeepCutAuto
import Derived.Deep.CutBlock
import Derived.Maps.RangeWalk
import Derived.Deep.RegionWith
import Derived.RegionTactic
import Derived.Handy
import Derived.Outline
import Derived.Deep.QuietTactic
import Derived.BigQuiet
import Derived.BigCall
import Derived.BigRegion
namespace Go.Proofs.YtndjbnkmhpbnpaaGreatDoor.Pr
open Go.RowKit Go.Proofs.YtndjbnkmhpbnpaaGreatDoorW.PrintWords Go.Proofs.YtndjbnkmhpbnpaaGreatDoorW.PrintLast Go.Proofs.YtndjbnkmhpbnpaaGreatDoorW.PrintMore
set_option linter.unusedVariables false
set_option linter.unusedSimpArgs false
theorem ev_same {α : Type} {f : Nat → Option α} {x y : α} (h : Ev f x) (h' : Ev f y) : x = y := by
 obtain ⟨K, h⟩ := h
 obtain ⟨K', h'⟩ := h'
 have := (h (max K K') (Nat.le_max_left _ _)).symm.trans (h' (max K K') (Nat.le_max_right _ _))
 exact Option.some.inj this
structure AliveTx (t : ByteArray) (kk : Int) (A : List Int) (ok : Bool) (T : Int) (r : Bool) : Prop where
 ai : ∃ k, impl_AliveAt.f k t kk = some (A, ok)
 at_ : ∃ k, spec_AliveAt.f k t kk = some (A, ok)
 mi : ∃ k, impl_MostAlive.f k t = some T
 ms : ∃ k, spec_MostAlive.f k t = some T
 ni : ∃ k, impl_AreNested.f k t = some r
 ns : ∃ k, spec_AreNested.f k t = some r
 same : ∃ k, laws_elSame.f k A A = some true
 al : A.length ≤ 600
 yes : ok = true → ∃ L : List S31, impl_LivesOf.f t = some (L, true) ∧ L.length ≤ 600 ∧ A = alv L 0 kk ∧ (A.length : Int) ≤ T ∧ r = qall L L.length
theorem alive_tx (t : ByteArray) (hs : t.size ≤ 1048576) (kk : Int) : ∃ A ok T r, AliveTx t kk A ok T r := by
 obtain ⟨m, l, g, hm, hl⟩ := told_good t
 have h1 := g.lvs_length
 have h2 := g.made
 obtain ⟨r, r1, r2⟩ := nested_ev t hs
 obtain ⟨r', r3, r4⟩ := nestedI_ev t hs
 obtain rfl := ev_same r2 r3
 have hA := aliveAtOf_len t kk
 refine ⟨(aliveAtOf t kk).1, (aliveAtOf t kk).2, mostOf t, r, Ev.rounds (aliveAtI_ev t kk hs), Ev.rounds (aliveAtS_ev t kk hs), Ev.rounds (mostI_ev t hs), Ev.rounds (mostS_ev t hs), Ev.rounds r2, Ev.rounds r1, Ev.rounds (elSame_ev _ (by omega)), hA, fun hok => ?_⟩
 unfold aliveAtOf at hok ⊢
 split at hok
 ·rename_i hc
  rw [if_pos hc]
  refine ⟨lvs (toldOf t).1, ?_, by omega, rfl, ?_, ?_⟩
  ·rw [ofLives_told t hs, if_pos hc.1]
  ·have h3 := (mst_le (lvs (toldOf t).1) (mst (lvs (toldOf t).1) (toldOf t).1.length 0 0) (toldOf t).1.length 0 0).1 (Int.le_refl _)
   have h4 := h3.2 kk.toNat (by omega)
   unfold mostOf
   rw [if_pos hc.1]
   rw [show (0 : Int) + (kk.toNat : Nat) = kk by omega] at h4
   exact h4
  ·have h5 := qall_quad (lvs (toldOf t).1)
   rw [nest_quad g] at h5
   rw [Bool.eq_iff_iff, h5, r4]
   exact ⟨fun h => h.2, fun h => ⟨hc.1, h⟩⟩
 ·simp at hok
def Box (g : Nat) (L : S31) (w : World) : Prop := w.heap[g]? = some (.cells #[.int .i64 L.f0, .int .i64 L.f1, .int .i64 L.f2] 31 (0, 0))
def AlRel (W : World) (L : List S31) (kk : Int) (c i : Value) (wr : World) : Prop :=
 ∃ j : Nat, j ≤ L.length ∧ i = .int .i64 (j : Int) ∧ c = .int .i64 (cnta L kk j : Int) ∧ Below W.heap.size W wr
def InRel (W : World) (A : List Int) (x : Int) (b i : Value) (wr : World) : Prop :=
 ∃ q : Nat, q ≤ A.length ∧ i = .int .i64 (q : Int) ∧ b = .bool (decide (x ∈ A.take q)) ∧ wr = W
theorem take_in {A : List Int} {x : Int} {q : Nat} (h : q < A.length) : decide (x ∈ A.take (q + 1)) = (decide (x ∈ A.take q) || (A[q] == x)) := by
 rw [List.take_succ_eq_append_getElem h]
 rw [Bool.eq_iff_iff, decide_eq_true_iff, Bool.or_eq_true, decide_eq_true_iff, beq_iff_eq, List.mem_append, List.mem_singleton]
 exact ⟨fun h => h.elim .inl (fun h => .inr h.symm), fun h => h.elim .inl (fun h => .inr h.symm)⟩
def NsRel (W : World) (L : List S31) (b i : Value) (wr : World) : Prop :=
 ∃ j : Nat, j ≤ L.length ∧ i = .int .i64 (j : Int) ∧ b = .bool (qall L j) ∧ Below W.heap.size W wr
def NtRel (W : World) (L : List S31) (j : Nat) (b0 : Bool) (b i : Value) (wr : World) : Prop :=
 ∃ q : Nat, q ≤ (L.drop (j + 1)).length ∧ i = .int .i64 (q : Int) ∧ b = .bool (b0 && qrow L j q) ∧ Below W.heap.size W wr
theorem lives_drop {W : World} {ad : Addr} {c : Nat} {L : List S31} {j : Nat} (hj : j < L.length) (hc : L.length ≤ c) (h : Kd.C k31 W (some ad) L.length L) :
  ∃ AD : Option Addr, (∀ V : World, (Instr.slice 27 (.slice (some ad) L.length c) (some (.int .i64 ((j : Int) + 1))) none none).run Tryz.prog V = .ok (.slice AD (L.drop (j + 1)).length (c - (j + 1))) V) ∧ Kd.C k31 W AD (L.drop (j + 1)).length (L.drop (j + 1)) := by
 obtain ⟨i0, hi, hzz⟩ := Option.map_eq_some_iff.1 info31
 simp only [Prod.mk.injEq] at hzz
 have h1 := cut_from (P := Tryz.prog) 27 31 .i64 Tryz.underlying27 hi 3 hzz.2.1 (some ad) L.length c ((j : Int) + 1) (by omega) (by omega)
 have h2 := Kd.C_drop (m := j + 1) (c := c) h (by omega) hc
 rw [show ((j : Int) + 1).toNat = j + 1 by omega] at h1
 have h3 : (L.drop (j + 1)).length = L.length - (j + 1) := List.length_drop
 refine ⟨_, ?_, h2⟩
 rw [h3]
 exact h1
theorem cnta_le (L : List S31) (kk : Int) (i : Nat) : cnta L kk i ≤ L.length := by
 have := alv_length kk (L.take i) 0
 unfold cnta
 rw [List.length_take] at this
 omega
set_option maxHeartbeats 8000000 in
set_option maxRecDepth 100000 in
theorem laws_FnAlive.calls (w : World) (v : Value) (n : Nat) (xs : Nat → Int) (hv : BArg w v n xs) (hn : n ≤ 1048576) (hLd : LaidW w) :
  Calls Tryz.prog 7 #[v] w fun e w' => e = .returned (.bool true) ∧ Below w.heap.size w w' := by
 have hu31 := Tryz.underlying31
 have HLd := Lib.hid hLd
 clear hLd
 obtain ⟨A0, c0, rfl⟩ : ∃ A c, v = .slice A n c := by
  rcases hv with ⟨rfl, rfl⟩ | ⟨a, cap, rfl, _⟩
  ·exact ⟨none, 0, rfl⟩
  ·exact ⟨some a, cap, rfl⟩
 have HV := Lib.hid hv
 have hnb : decide ((1048576 : Int) < (n : Int)) = false := by simp; omega
 clear hv
 go_enter Tryz.func7, Tryz.ntmps7
 go_wp2_with fail
 refine (drawAlive_any w _ n xs HV.out hn).mono ?_
 rintro e w1 ⟨t, kk, ht, hk1, hk6, rfl, hb1⟩
 have HB1 := Lib.hid hb1
 clear hb1 hnb
 obtain ⟨A, ok, T, r, tx⟩ := alive_tx t (by omega) kk
 have TX := Lib.hid tx
 clear tx
 obtain ⟨k1, e1⟩ := TX.out.ai
 have E1 := Lib.hid e1
 clear e1
 go_wp2_with fail
 refine (impl_AliveAt.calls k1 t kk A ok _ (HLd.out.below HB1.out) E1.out).mono ?_
 rintro e w2 ⟨v5, rfl, hr2, hb2⟩
 obtain ⟨A5, c5, rfl⟩ := Kd.R_slice hr2
 have HR2 := Lib.hid (Kd.R_reads' hr2)
 have HB2 := Lib.hid (bS HB1.out hb2)
 clear hr2 hb2
 obtain ⟨k2, e2⟩ := TX.out.at_
 have E2 := Lib.hid e2
 clear e2
 go_wp2_with fail
 refine (spec_AliveAt.calls k2 t kk A ok _ E2.out).mono ?_
 rintro e w3 ⟨v7, rfl, hr3, hb3⟩
 obtain ⟨A7, c7, rfl⟩ := Kd.R_slice hr3
 have HR3 := Lib.hid (Kd.R_reads' hr3)
 have HR2' := Lib.hid (Kd.C_below HR2.out.2.2 hb3)
 have HB3 := Lib.hid (bS HB2.out hb3)
 clear hr3 hb3
 obtain ⟨k3, e3⟩ := TX.out.mi
 have E3 := Lib.hid e3
 clear e3
 go_wp2_with fail
 refine (impl_MostAlive.calls k3 t T _ (HLd.out.below HB3.out) E3.out).mono ?_
 rintro e w4 ⟨rfl, hb4⟩
 have HA4 := Lib.hid (Kd.C_below HR2'.out hb4)
 have HS4 := Lib.hid (Kd.C_below HR3.out.2.2 hb4)
 have HB4 := Lib.hid (bS HB3.out hb4)
 clear hb4
 obtain ⟨k5, e5⟩ := TX.out.same
 have E5 := Lib.hid e5
 clear e5
 have HC5 := Lib.hid HR2.out.2.1
 have HC7 := Lib.hid HR3.out.2.1
 clear HR2 HR3 HR2' E1 E2 E3
 go_wp2_with fail
 refine (laws_elSame.calls k5 A5 c5 A A7 c7 A true _ HA4.out HC5.out HS4.out HC7.out E5.out).mono ?_
 rintro e w5 ⟨rfl, hb5⟩
 have HA5 := Lib.hid (Kd.C_below HA4.out hb5)
 have HS5 := Lib.hid (Kd.C_below HS4.out hb5)
 have HB5 := Lib.hid (bS HB4.out hb5)
 clear hb5 HA4 HS4
 have hoo : (ok != ok) = false := by simp
 have hTT : (T != T) = false := by simp
 have hrr : (r != r) = false := by simp
 obtain ⟨k4, e4⟩ := TX.out.ms
 have E4 := Lib.hid e4
 obtain ⟨k6, e6⟩ := TX.out.ni
 have E6 := Lib.hid e6
 obtain ⟨k7, e7⟩ := TX.out.ns
 have E7 := Lib.hid e7
 clear e4 e6 e7
 go_wp2_with fail
 refine (spec_MostAlive.calls k4 t T _ E4.out).mono ?_
 rintro e w6 ⟨rfl, hb6⟩
 have HA6 := Lib.hid (Kd.C_below HA5.out hb6)
 have HS6 := Lib.hid (Kd.C_below HS5.out hb6)
 have HB6 := Lib.hid (bS HB5.out hb6)
 clear hb6 HA5 HS5
 go_wp2_with fail
 refine (impl_AreNested.calls k6 t r _ (HLd.out.below HB6.out) E6.out).mono ?_
 rintro e w7 ⟨rfl, hb7⟩
 have HA7 := Lib.hid (Kd.C_below HA6.out hb7)
 have HS7 := Lib.hid (Kd.C_below HS6.out hb7)
 have HB7 := Lib.hid (bS HB6.out hb7)
 clear hb7 HA6 HS6
 go_wp2_with fail
 refine (spec_AreNested.calls k7 t r _ E7.out).mono ?_
 rintro e w8 ⟨rfl, hb8⟩
 have HA8 := Lib.hid (Kd.C_below HA7.out hb8)
 have HS8 := Lib.hid (Kd.C_below HS7.out hb8)
 have HB8 := Lib.hid (bS HB7.out hb8)
 clear hb8 HA7 HS7
 cases ok
 ·have hT2 : (T == T) = true := by simp
  have hr2 : (r == r) = true := by simp
  go_wp2_with fail
  refine (laws_elSame.calls k5 A5 c5 A A7 c7 A true _ HA8.out HC5.out HS8.out HC7.out E5.out).mono ?_
  rintro e w9 ⟨rfl, hb9⟩
  have HB9 := Lib.hid (bS HB8.out hb9)
  clear hb9 HA8 HS8
  go_wp2_with fail
  refine (spec_MostAlive.calls k4 t T _ E4.out).mono ?_
  rintro e w10 ⟨rfl, hb10⟩
  have HB10 := Lib.hid (bS HB9.out hb10)
  clear hb10
  go_wp2_with fail
  refine (impl_AreNested.calls k6 t r _ (HLd.out.below HB10.out) E6.out).mono ?_
  rintro e w11 ⟨rfl, hb11⟩
  have HB11 := Lib.hid (bS HB10.out hb11)
  clear hb11
  go_wp2_with fail
  refine (spec_AreNested.calls k7 t r _ E7.out).mono ?_
  rintro e w12 ⟨rfl, hb12⟩
  have HB12 := Lib.hid (bS HB11.out hb12)
  clear hb12
  go_wp2_with fail
  go_ret
  exact ⟨rfl, HB12.out⟩
 ·obtain ⟨L, yl, yl6, yA, yT, yr⟩ := TX.out.yes rfl
  have hA6 := TX.out.al
  have YL := Lib.hid yl
  have YA := Lib.hid yA
  have YT := Lib.hid yT
  have YR := Lib.hid yr
  clear yl yA yT yr TX E4 E5 E7 HS8 hoo hTT hrr HC7
  go_wp2_with fail
  refine (impl_LivesOf.calls t L true _ (HLd.out.below HB8.out) YL.out).mono ?_
  rintro e w9 ⟨v10, rfl, hr9, hb9⟩
  obtain ⟨A10, c10, rfl⟩ := Kd.R_slice hr9
  have HA := Lib.hid (Kd.C_below HA8.out hb9)
  have HL := Lib.hid (Kd.R_reads' hr9).2.2
  have HLc := Lib.hid (Kd.R_reads' hr9).2.1
  have HB9 := Lib.hid (bS HB8.out hb9)
  clear hr9 hb9 HA8 YL
  go_wp2_with fail
  go_loopw [12, 99] (fun c i wr => AlRel w9 L kk c i wr) (fun _ i _ => L.length - (intOf i).toNat)
  case atStart => exact ⟨0, Nat.zero_le _, rfl, rfl, Below.refl _ _⟩
  case round =>
   obtain ⟨j, hj, rfl, rfl, hb⟩ := hrel
   have HBr := Lib.hid hb
   clear hb
   have hcj := cnta_le L kk j
   generalize hcn : cnta L kk j = cn at *
   have HCN := Lib.hid hcn
   clear hcn
   by_cases hlt : j < L.length
   ·obtain ⟨ad, rfl, h0, h1, h2⟩ := at_T31 HL.out (j : Int) (by omega) (by omega)
    rw [show rd_T31 L (j : Int) = L[j] from rd_get (List.getElem?_eq_getElem hlt), Int.toNat_natCast] at h0 h1 h2
    replace h0 := (HBr.out.cell (World.block_lt_of_cell? w9 _ h0)).trans h0
    replace h1 := (HBr.out.cell (World.block_lt_of_cell? w9 _ h1)).trans h1
    replace h2 := (HBr.out.cell (World.block_lt_of_cell? w9 _ h2)).trans h2
    have hHM := Lib.hid (show L[j]? = some L[j] from List.getElem?_eq_getElem hlt)
    generalize L[j] = M at *
    go_upto_region 13 with fail
    go_cut [13, 14] (fun v13 v14 wc => v13 = .int .i64 (j : Int) ∧ ∃ g : Nat, v14 = .pointer (some ⟨g, 0, none⟩) ∧ Box g M wc ∧ Below w9.heap.size w9 wc)
    case first =>
     go_wp2_with fail
     go_meet
     refine ⟨rfl, _, rfl, ?_, ?_⟩
     ·exact blk_new _ _
     ·exact bA HBr.out _
    case rest =>
     obtain ⟨rfl, g, rfl, hbox, hb⟩ := hcut
     have HBX := Lib.hid hbox
     have HBc := Lib.hid hb
     clear hb hbox h0 h1 h2 HBr
     have HIN := Lib.hid (show ((j : Int) + 1 ∈ A ↔ M.f0 ≤ kk ∧ (M.f2 < 0 ∨ kk < M.f2)) by
      have h := in_alv (k := kk) hlt
      rw [YA.out, h, show L[j] = M from Option.some.inj ((List.getElem?_eq_getElem hlt).symm.trans hHM.out)])
     have HCS := Lib.hid (show cnta L kk (j + 1) = cn + if M.f0 ≤ kk ∧ (M.f2 < 0 ∨ kk < M.f2) then 1 else 0 by
      rw [cnta_succ hlt, HCN.out, show L[j] = M from Option.some.inj ((List.getElem?_eq_getElem hlt).symm.trans hHM.out)])
     clear hHM HCN
     go_wp2_with fail
     go_loopw [15, 106] (fun b i wr' => InRel wc A ((j : Int) + 1) b i wr') (fun _ i _ => A.length - (intOf i).toNat)
     case atStart => exact ⟨0, Nat.zero_le _, rfl, by simp, rfl⟩
     case round =>
      obtain ⟨q, hq, rfl, rfl, rfl⟩ := hrel
      by_cases hq2 : q < A.length
      ·obtain ⟨ad5, rfl, hx⟩ := Kd.at_int HA.out (q : Int) (by omega) (by omega)
       rw [rd_at hq2, Int.toNat_natCast] at hx
       replace hx := (HBc.out.cell (World.block_lt_of_cell? w9 _ hx)).trans hx
       have HT := Lib.hid (take_in (x := (j : Int) + 1) hq2)
       generalize decide (((j : Int) + 1) ∈ A.take q) = b at *
       generalize A[q] = y at *
       cases b
       ·by_cases hy : y = (j : Int) + 1
        ·have hd : (y == (j : Int) + 1) = true := beq_iff_eq.2 hy
         have HD := Lib.hid hd
         clear hy
         go_wp2_with fail
         go_roundw
         case rel => exact ⟨q + 1, hq2, by go_num, by rw [HT.out, HD.out]; rfl, rfl⟩
         case measure => simp [intOf]; omega
        ·have hd : (y == (j : Int) + 1) = false := beq_eq_false_iff_ne.2 hy
         have HD := Lib.hid hd
         clear hy
         go_wp2_with fail
         go_roundw
         case rel => exact ⟨q + 1, hq2, by go_num, by rw [HT.out, HD.out]; rfl, rfl⟩
         case measure => simp [intOf]; omega
       ·go_wp2_with fail
        go_roundw
        case rel => exact ⟨q + 1, hq2, by go_num, by rw [HT.out]; rfl, rfl⟩
        case measure => simp [intOf]; omega
      ·obtain rfl : q = A.length := by omega
       have hb : decide ((j : Int) + 1 ∈ A.take A.length) = true ↔ M.f0 ≤ kk ∧ (M.f2 < 0 ∨ kk < M.f2) := by rw [List.take_length, decide_eq_true_iff]; exact HIN.out
       generalize decide ((j : Int) + 1 ∈ A.take A.length) = b at *
       have b0 := (blk_cell HBX.out 0).trans (show _ = some (.int .i64 M.f0) from rfl)
       have b2 := (blk_cell HBX.out 2).trans (show _ = some (.int .i64 M.f2) from rfl)
       have HBB := Lib.hid hb
       clear hb HIN
       go_upto_region 20 with fail
       go_cut [134] (fun v134 wd => v134 = .bool false ∧ wd = wr)
       case first =>
        have hbb := HBB.out
        by_cases f1 : M.f0 ≤ kk
        ·have d1 : decide (M.f0 ≤ kk) = true := decide_eq_true f1
         by_cases f2 : M.f2 < 0
         ·have d2 : decide (M.f2 < 0) = true := decide_eq_true f2
          obtain rfl : b = true := hbb.2 ⟨f1, .inl f2⟩
          clear f1 f2 hbb
          go_wp2_with fail
          go_meet
          exact ⟨rfl, rfl⟩
         ·have d2 : decide (M.f2 < 0) = false := decide_eq_false f2
          by_cases f3 : kk < M.f2
          ·have d3 : decide (kk < M.f2) = true := decide_eq_true f3
           obtain rfl : b = true := hbb.2 ⟨f1, .inr f3⟩
           clear f1 f2 f3 hbb
           go_wp2_with fail
           go_meet
           exact ⟨rfl, rfl⟩
          ·have d3 : decide (kk < M.f2) = false := decide_eq_false f3
           obtain rfl : b = false := by
            cases b
            ·rfl
            ·have := hbb.1 rfl; omega
           clear f1 f2 f3 hbb
           go_wp2_with fail
           go_meet
           exact ⟨rfl, rfl⟩
        ·have d1 : decide (M.f0 ≤ kk) = false := decide_eq_false f1
         obtain rfl : b = false := by
          cases b
          ·rfl
          ·have := hbb.1 rfl; omega
         clear f1 hbb
         go_wp2_with fail
         go_meet
         exact ⟨rfl, rfl⟩
       case rest =>
        obtain ⟨rfl, hwd⟩ := hcut
        rw [hwd]
        clear hwd
        cases b
        ·go_wp2_with fail
         go_roundw
         case rel => exact ⟨j + 1, hlt, by go_num, by rw [HCS.out, if_neg (fun h => absurd (HBB.out.2 h) (by decide))]; go_num, HBc.out⟩
         case measure => simp [intOf]; omega
        ·go_wp2_with fail
         go_roundw
         case rel => exact ⟨j + 1, hlt, by go_num, by rw [HCS.out, if_pos (HBB.out.1 rfl)]; go_num, HBc.out⟩
         case measure => simp [intOf]; omega
   ·obtain rfl : j = L.length := by omega
    have hcA : cn = A.length := by rw [← HCN.out, cnta_end, YA.out]
    have HCA := Lib.hid hcA
    clear hcA HCN YA HA
    have hlt9 := HBr.out.size
    go_wp2_with fail
    go_loopw [18, 141] (fun b i wr' => NsRel w9 L b i wr') (fun _ i _ => L.length - (intOf i).toNat)
    case atStart => exact ⟨0, Nat.zero_le _, rfl, rfl, HBr.out⟩
    case round =>
     clear HBr hlt9
     obtain ⟨j, hj, rfl, rfl, hb⟩ := hrel
     have HBr := Lib.hid hb
     clear hb
     by_cases hlt : j < L.length
     ·obtain ⟨ad, rfl, h0, h1, h2⟩ := at_T31 HL.out (j : Int) (by omega) (by omega)
      have hrd : rd_T31 L (j : Int) = L[j] := rd_get (List.getElem?_eq_getElem hlt)
      rw [hrd, Int.toNat_natCast] at h0 h1 h2
      replace h0 := (HBr.out.cell (World.block_lt_of_cell? w9 _ h0)).trans h0
      replace h1 := (HBr.out.cell (World.block_lt_of_cell? w9 _ h1)).trans h1
      replace h2 := (HBr.out.cell (World.block_lt_of_cell? w9 _ h2)).trans h2
      have HRD := Lib.hid hrd
      clear hrd
      generalize L[j] = M at *
      go_upto_region 28 with fail
      go_cut [19, 20] (fun v19 v20 wc => v19 = .int .i64 (j : Int) ∧ ∃ g : Nat, v20 = .pointer (some ⟨g, 0, none⟩) ∧ Box g M wc ∧ Below w9.heap.size w9 wc)
      case first =>
       go_wp2_with fail
       go_meet
       refine ⟨rfl, _, rfl, ?_, ?_⟩
       ·exact blk_new _ _
       ·exact bA HBr.out _
      case rest =>
       obtain ⟨rfl, g, rfl, hbox, hb⟩ := hcut
       have HBX := Lib.hid hbox
       have HBc := Lib.hid hb
       clear hb hbox h0 h1 h2 HBr
       obtain ⟨AD, hcutD, hD⟩ := lives_drop hlt HLc.out HL.out
       have HD := Lib.hid hD
       clear hD
       have hdl : (L.drop (j + 1)).length = L.length - (j + 1) := List.length_drop
       have HQS := Lib.hid (qall_succ L j)
       generalize qall L j = b0 at *
       go_wp2_with fail
       clear hcutD
       go_loopw [18, 151] (fun b i wr' => NtRel wc L j b0 b i wr') (fun _ i _ => (L.drop (j + 1)).length - (intOf i).toNat)
       case atStart => exact ⟨0, Nat.zero_le _, rfl, by rw [qrow_zero, Bool.and_true], Below.refl _ _⟩
       case round =>
        obtain ⟨q, hq, rfl, rfl, hb⟩ := hrel
        have HBq := Lib.hid hb
        clear hb
        by_cases hq2 : q < (L.drop (j + 1)).length
        ·obtain ⟨ad2, rfl, h0, h1, h2⟩ := at_T31 HD.out (q : Int) (by omega) (by omega)
         have hrd : rd_T31 (L.drop (j + 1)) (q : Int) = rd_T31 L ((j + 1 + q : Nat) : Int) := by
          rw [rd_get (List.getElem?_eq_getElem hq2), rd_get (List.getElem?_eq_getElem (show j + 1 + q < L.length by omega)), List.getElem_drop]
         rw [hrd, Int.toNat_natCast] at h0 h1 h2
         have HB9q := Lib.hid (bS HBc.out HBq.out)
         replace h0 := (HB9q.out.cell (World.block_lt_of_cell? w9 _ h0)).trans h0
         replace h1 := (HB9q.out.cell (World.block_lt_of_cell? w9 _ h1)).trans h1
         replace h2 := (HB9q.out.cell (World.block_lt_of_cell? w9 _ h2)).trans h2
         have HQ := Lib.hid (show (b0 && qrow L j (q + 1)) = ((b0 && qrow L j q) && rq M (rd_T31 L ((j + 1 + q : Nat) : Int))) by
          rw [qrow_succ (by omega), HRD.out, Bool.and_assoc])
         clear hrd
         generalize rd_T31 L ((j + 1 + q : Nat) : Int) = M2 at *
         generalize (b0 && qrow L j q) = b at *
         go_upto_region 31 with fail
         go_cut [22] (fun v22 wd => ∃ g2 : Nat, v22 = .pointer (some ⟨g2, 0, none⟩) ∧ Box g2 M2 wd ∧ Box g M wd ∧ Below wc.heap.size wc wd)
         case first =>
          go_wp2_with fail
          go_meet
          refine ⟨_, rfl, ?_, ?_, ?_⟩
          ·exact blk_new _ _
          ·exact blA (blk_below HBX.out HBq.out) _
          ·exact bA HBq.out _
         case rest =>
          obtain ⟨g2, rfl, hbox2, hbox, hb⟩ := hcut
          have HB2x := Lib.hid hb
          have b0_ := (blk_cell hbox2 0).trans (show _ = some (.int .i64 M2.f0) from rfl)
          have b2_ := (blk_cell hbox2 2).trans (show _ = some (.int .i64 M2.f2) from rfl)
          have a2_ := (blk_cell hbox 2).trans (show _ = some (.int .i64 M.f2) from rfl)
          clear hb hbox hbox2 h0 h1 h2 HBq HB9q
          cases b
          ·go_wp2_with fail
           go_roundw
           case rel => exact ⟨q + 1, hq2, by go_num, by rw [HQ.out]; rfl, HB2x.out⟩
           case measure => simp [intOf]; omega
          ·by_cases f1 : M.f2 < 0
           ·have d1 : decide (M.f2 < 0) = true := decide_eq_true f1
            have HR := Lib.hid (show rq M M2 = true by rw [rq_iff]; omega)
            clear f1
            go_wp2_with fail
            go_roundw
            case rel => exact ⟨q + 1, hq2, by go_num, by rw [HQ.out, HR.out]; rfl, HB2x.out⟩
            case measure => simp [intOf]; omega
           ·have d1 : decide (M.f2 < 0) = false := decide_eq_false f1
            by_cases f2 : M.f2 < M2.f0
            ·have d2 : decide (M.f2 < M2.f0) = true := decide_eq_true f2
             have HR := Lib.hid (show rq M M2 = true by rw [rq_iff]; omega)
             clear f1 f2
             go_wp2_with fail
             go_roundw
             case rel => exact ⟨q + 1, hq2, by go_num, by rw [HQ.out, HR.out]; rfl, HB2x.out⟩
             case measure => simp [intOf]; omega
            ·have d2 : decide (M.f2 < M2.f0) = false := decide_eq_false f2
             by_cases f3 : 0 ≤ M2.f2
             ·have d3 : decide (0 ≤ M2.f2) = true := decide_eq_true f3
              by_cases f4 : M2.f2 < M.f2
              ·have d4 : decide (M2.f2 < M.f2) = true := decide_eq_true f4
               have HR := Lib.hid (show rq M M2 = true by rw [rq_iff]; omega)
               clear f1 f2 f3 f4
               go_wp2_with fail
               go_roundw
               case rel => exact ⟨q + 1, hq2, by go_num, by rw [HQ.out, HR.out]; rfl, HB2x.out⟩
               case measure => simp [intOf]; omega
              ·have d4 : decide (M2.f2 < M.f2) = false := decide_eq_false f4
               have HR := Lib.hid (show rq M M2 = false by rw [Bool.eq_false_iff, Ne, rq_iff]; omega)
               clear f1 f2 f3 f4
               go_wp2_with fail
               go_roundw
               case rel => exact ⟨q + 1, hq2, by go_num, by rw [HQ.out, HR.out]; rfl, HB2x.out⟩
               case measure => simp [intOf]; omega
             ·have d3 : decide (0 ≤ M2.f2) = false := decide_eq_false f3
              have HR := Lib.hid (show rq M M2 = false by rw [Bool.eq_false_iff, Ne, rq_iff]; omega)
              clear f1 f2 f3
              go_wp2_with fail
              go_roundw
              case rel => exact ⟨q + 1, hq2, by go_num, by rw [HQ.out, HR.out]; rfl, HB2x.out⟩
              case measure => simp [intOf]; omega
        ·have hqe : (b0 && qrow L j q) = qall L (j + 1) := by rw [HQS.out, qrow_end (show L.length ≤ j + 1 + q by omega)]
         generalize (b0 && qrow L j q) = b at *
         have HQE := Lib.hid hqe
         clear hqe
         go_wp2_with fail
         go_roundw
         case rel => exact ⟨j + 1, hlt, by go_num, by rw [HQE.out], bS HBc.out HBq.out⟩
         case measure => simp [intOf]; omega
     ·obtain rfl : j = L.length := by omega
      have hrq : (r == qall L L.length) = true := by rw [beq_iff_eq]; exact YR.out
      have hct : ((cn : Int) == (A.length : Int)) = true := by rw [beq_iff_eq, HCA.out]
      have hmt : decide ((A.length : Int) ≤ T) = true := decide_eq_true YT.out
      generalize qall L L.length = b at *
      clear YT YR HCA
      go_wp2_with fail
      refine (impl_AreNested.calls k6 t r _ (HLd.out.below (bS HB9.out HBr.out)) E6.out).mono ?_
      rintro e w13 ⟨rfl, hb13⟩
      have HB13 := Lib.hid (bS (bS HB9.out HBr.out) hb13)
      clear hb13
      go_wp2_with fail
      go_ret
      exact ⟨rfl, HB13.out⟩
end Go.Proofs.YtndjbnkmhpbnpaaGreatDoor.Pr
