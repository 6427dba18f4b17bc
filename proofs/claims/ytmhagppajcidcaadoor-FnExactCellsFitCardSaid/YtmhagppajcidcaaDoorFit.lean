/- The contract of the program's 'CellsFit'. -/
import Derived.Test.YtmhagppajcidcaaDoorKept
namespace Go.Proofs.YtmhagppajcidcaaDoor.Pr
open Go.RowKit Go.Maps Go.Proofs.YtmhagppajcidcaaDoorW.PrintWords Go.Proofs.YtmhagppajcidcaaDoorW.PrintLast Go.Proofs.YtmhagppajcidcaaDoorW.PrintMore
set_option linter.unusedVariables false
/-- do the cells serve, from here on? -/
def fitI (xs : List Int) : List S50 → List Int → Bool
  | [], _ => true
  | e :: r, L =>
    if rd xs (e.f1 - 1) < 0 then false
    else if e.f0.toList = [43] then (if rd xs (e.f1 - 1) ∈ L then false else fitI xs r (L ++ [rd xs (e.f1 - 1)]))
    else if e.f0.toList = [45] then fitI xs r (L.filter (fun y => y != rd xs (e.f1 - 1)))
    else fitI xs r L
def fitOf (a0 : ByteArray) (xs : List Int) : Bool :=
  if (toldOf a0).2.2 = true ∧ (xs.length : Int) = (toldOf a0).2.1 then fitI xs (toldOf a0).1 [] else false
structure FIn (w0 : World) (B n : Nat) (L : List Int) (wr : World) : Prop where
  below : Below w0.heap.size w0 wr
  map : KeyMap wr B n L
  baseB : w0.heap.size ≤ B
structure FBox (w0 : World) (B n : Nat) (L : List Int) (b : Nat) (e : S50) (wr : World) : Prop extends FIn w0 B n L wr where
  box : wr.heap[b]? = some (.cells #[.string e.f0, .int .i64 e.f1] 50 (0, 0))
section
variable {w0 wr w' : World} {B n b : Nat} {L : List Int} {e : S50}
theorem FIn.on (h : FIn w0 B n L wr) (hb : Below wr.heap.size wr w') : FIn w0 B n L w' := ⟨h.below.trans (hb.mono h.below.size), h.map.below hb, h.baseB⟩
theorem FIn.mapped (h : FIn w0 B n L wr) {L' : List Int} {n' : Nat} (hm : KeyMap w' B n' L') (hg : wr.grownBy w' (some B)) : FIn w0 B n' L' w' :=
  ⟨h.below.trans ⟨hg.os, hg.tape, hg.output, hg.size, fun k hk => hg.block k (Nat.lt_of_lt_of_le hk h.below.size) (fun e => by injection e with e; have := h.baseB; omega)⟩, hm, h.baseB⟩
end
def FRel (w0 : World) (B : Nat) (l : List S50) (xs : List Int) (v29 : Value) (wr : World) : Prop :=
  ∃ (k n : Nat) (L : List Int), k ≤ l.length ∧ v29 = .int .i64 k ∧ fitI xs l [] = fitI xs (l.drop k) L ∧ n ≤ k ∧ FIn w0 B n L wr
theorem fitI_drop {xs : List Int} {l : List S50} {k : Nat} (hk : k < l.length) (L : List Int) : fitI xs (l.drop k) L = fitI xs (l[k] :: l.drop (k + 1)) L := by
  rw [List.drop_eq_getElem_cons hk]
set_option maxHeartbeats 4000000 in
set_option maxRecDepth 1000000 in
theorem fit_any (a0 : ByteArray) (A1 : Option Addr) (c1 : Nat) (l1 : List Int) (w : World) (hLd : LaidW w) (hs : a0.size ≤ 1048576) (hr1 : Kd.C (Kd.int .i64) w A1 l1.length l1) (hx : ∀ x ∈ l1, -9223372036854775808 ≤ x ∧ x ≤ 9223372036854775807) (hm1 : (toldOf a0).2.1 ≤ 1000000) (hl : (toldOf a0).1.length ≤ 600) (hv : ∀ e ∈ (toldOf a0).1, 1 ≤ e.f1 ∧ e.f1 ≤ (toldOf a0).2.1) :
    Calls Tryd.prog 16 #[.string a0, .slice A1 l1.length c1] w fun e w' => e = .returned (.bool (fitOf a0 l1)) ∧ Below w.heap.size w w' := by
  have hmm := @run_makeMap Tryd.prog
  have HV := Lib.hid hv
  have HR := Lib.hid hr1
  have HX := Lib.hid hx
  clear hv hr1 hx
  go_enter Tryd.func16, Tryd.ntmps16
  go_wp2_with fail
  refine (told_any a0 _ hLd hs).mono ?_
  rintro e w1 ⟨v1, rfl, hrr1, hb1⟩
  have HK := Lib.hid (show fitOf a0 l1 = if (toldOf a0).2.2 = true ∧ (l1.length : Int) = (toldOf a0).2.1 then fitI l1 (toldOf a0).1 [] else false from rfl)
  generalize (toldOf a0).2.2 = ok at *
  generalize (toldOf a0).2.1 = made at *
  generalize (toldOf a0).1 = l at *
  cases ok with
  | false =>
    go_wp2_with fail
    go_ret
    exact ⟨by rw [HK.out]; rfl, hb1⟩
  | true =>
    obtain ⟨Al, cl, rfl⟩ := Kd.R_slice hrr1
    have HC := Lib.hid (Kd.R_reads' hrr1).2.2
    have HB1 := Lib.hid hb1
    clear hrr1 hb1
    by_cases hlen : (l1.length : Int) = made
    · have hb : ((l1.length : Int) != made) = false := bne_eq_false_iff_eq.2 hlen
      have HL := Lib.hid hlen
      have hlm : made = (l1.length : Int) := hlen.symm
      subst hlm
      clear hlen
      go_wp2_with fail
      have HI := Lib.hid (show FIn w1 w1.heap.size 0 [] (w1.alloc (.map #[] 0)) from ⟨below_a _, KeyMap.start w1, Nat.le_refl _⟩)
      go_loopw [29] (fun v29 wr => FRel w1 w1.heap.size l l1 v29 wr) (fun v29 _ => l.length - (intOf v29).toNat)
      case atStart => exact ⟨0, 0, [], Nat.zero_le _, rfl, rfl, Nat.le_refl _, HI.out⟩
      case round =>
        clear HI
        obtain ⟨k, n, L, hk, rfl, hT, hnk, hI⟩ := hrel
        have HT := Lib.hid hT
        have HI := Lib.hid hI
        clear hT hI
        by_cases hlt : k < l.length
        · have he := HV.out _ (List.getElem_mem hlt)
          obtain ⟨ad, hA, hx0, hx1⟩ := at_T50 (Kd.C_below HC.out HI.out.below) (k : Int) (by omega) (by omega)
          have HD := Lib.hid (HT.out.trans (fitI_drop hlt L))
          rw [show rd_T50 l (k : Int) = l[k] by unfold rd_T50; simp [hlt]] at hx0 hx1
          simp only [Int.toNat_natCast] at hx0 hx1
          generalize l[k] = e at *
          clear HT
          subst hA
          go_upto_region 8 with fail
          have HI4 := Lib.hid (show FBox w1 w1.heap.size n L wr.heap.size e (wr.alloc (.cells #[.string e.f0, .int .i64 e.f1] 50)) from ⟨HI.out.on (below_a _), heap_alloc_new wr _⟩)
          obtain ⟨W4, hW4⟩ : ∃ W4, W4 = wr.alloc (.cells #[.string e.f0, .int .i64 e.f1] 50) := ⟨_, rfl⟩
          rw [← hW4] at HI4 ⊢
          obtain ⟨bk, hbk⟩ : ∃ bk, bk = wr.heap.size := ⟨_, rfl⟩
          rw [← hbk] at HI4 ⊢
          clear hW4 hx0 hx1 HI hbk
          have hc0 : W4.cell? ⟨bk, 0, none⟩ = some (.string e.f0) := (blk_cell HI4.out.box 0).trans rfl
          have hc1 : W4.cell? ⟨bk, 1, none⟩ = some (.int .i64 e.f1) := (blk_cell HI4.out.box 1).trans rfl
          have hp : 0 ≤ e.f1 - 1 := by omega
          have hq : e.f1 - 1 < (l1.length : Int) := by omega
          have hto : (e.f1 - 1).toNat = e.f1.toNat - 1 := by omega
          obtain ⟨adx, hAx, hy0⟩ := Kd.at_int (Kd.C_below HR.out (HB1.out.trans (HI4.out.below.mono HB1.out.size))) (e.f1 - 1) hp hq
          rw [hto] at hy0
          subst hAx
          have hcr := HX.out (rd l1 (e.f1 - 1)) (rd_mem l1 hp hq)
          have HF := Lib.hid (show fitI l1 (e :: l.drop (k + 1)) L = if rd l1 (e.f1 - 1) < 0 then false
            else if e.f0.toList = [43] then (if rd l1 (e.f1 - 1) ∈ L then false else fitI l1 (l.drop (k + 1)) (L ++ [rd l1 (e.f1 - 1)]))
            else if e.f0.toList = [45] then fitI l1 (l.drop (k + 1)) (L.filter (fun y => y != rd l1 (e.f1 - 1)))
            else fitI l1 (l.drop (k + 1)) L from rfl)
          generalize rd l1 (e.f1 - 1) = c at *
          have hcw := wf_of hcr.1 hcr.2
          have HOUT := Lib.hid (HB1.out.trans (HI4.out.below.mono HB1.out.size))
          by_cases hneg : c < 0
          · have bneg : decide (c < 0) = true := decide_eq_true hneg
            have HS := Lib.hid (HD.out.trans (HF.out.trans (if_pos hneg)))
            clear hneg
            go_wp2_with fail
            go_ret
            exact ⟨by rw [HK.out, if_pos (by simp), HS.out]; rfl, HOUT.out⟩
          · have bneg : decide (c < 0) = false := decide_eq_false hneg
            have HF2 := Lib.hid (HF.out.trans (if_neg hneg))
            clear hneg HF
            by_cases s43 : e.f0.toList = [43]
            · have b43 : (e.f0.toList == [43]) = true := beq_iff_eq.2 s43
              have HF3 := Lib.hid (HF2.out.trans (if_pos s43))
              clear s43 HF2
              have hlk := HI4.out.map.alive.look hcw
              by_cases hin : c ∈ L
              · have hlk1 : (Instr.lookup 48 (.map (some w1.heap.size)) (.int .i64 c) false).run Tryd.prog W4 = .ok (.bool true) W4 := by rw [hlk, decide_eq_true hin]
                have HS := Lib.hid (HD.out.trans (HF3.out.trans (if_pos hin)))
                clear hlk hin
                go_wp2_with fail
                go_ret
                exact ⟨by rw [HK.out, if_pos (by simp), HS.out]; rfl, HOUT.out⟩
              · have hlk1 : (Instr.lookup 48 (.map (some w1.heap.size)) (.int .i64 c) false).run Tryd.prog W4 = .ok (.bool false) W4 := by rw [hlk, decide_eq_false hin]
                have HS := Lib.hid (HD.out.trans (HF3.out.trans (if_neg hin)))
                clear hlk hin
                go_wp2_with (first | (at_mapUpdate; refine wpList_kborn rfl _ _ _ rfl rfl HI4.out.map (by omega) c rfl rfl hcw ?_; intro W7 hm7 hg7; have HI7 := Lib.hid (HI4.out.toFIn.mapped hm7 hg7); clear hm7 hg7) | fail)
                go_roundw
                case rel => exact ⟨k + 1, n + 1, _, hlt, by go_num, HS.out, by omega, HI7.out⟩
                case measure => simp [intOf]; omega
            · have b43 : (e.f0.toList == [43]) = false := beq_eq_false_iff_ne.2 s43
              have HF3 := Lib.hid (HF2.out.trans (if_neg s43))
              clear HF2 s43
              by_cases s45 : e.f0.toList = [45]
              · have b45 : (e.f0.toList == [45]) = true := beq_iff_eq.2 s45
                have HS := Lib.hid (HD.out.trans (HF3.out.trans (if_pos s45)))
                clear s45
                go_wp2_with (first | (at_delete; refine wpList_kdead rfl _ _ rfl rfl HI4.out.map c rfl hcw ?_; intro W5 hm5 hg5; have HI5 := Lib.hid (HI4.out.toFIn.mapped hm5 hg5); clear hm5 hg5) | fail)
                go_roundw
                case rel => exact ⟨k + 1, n, _, hlt, by go_num, HS.out, by omega, HI5.out⟩
                case measure => simp [intOf]; omega
              · have b45 : (e.f0.toList == [45]) = false := beq_eq_false_iff_ne.2 s45
                have HS := Lib.hid (HD.out.trans (HF3.out.trans (if_neg s45)))
                clear s45
                go_wp2_with fail
                go_roundw
                case rel => exact ⟨k + 1, n, _, hlt, by go_num, HS.out, by omega, HI4.out.toFIn⟩
                case measure => simp [intOf]; omega
        · have hkn : k = l.length := by omega
          subst hkn
          have HE := Lib.hid (show fitI l1 l [] = true by rw [HT.out, List.drop_length, fitI])
          clear HT
          go_wp2_with fail
          go_ret
          exact ⟨by rw [HK.out, if_pos (by simp), HE.out]; rfl, HB1.out.trans (HI.out.below.mono HB1.out.size)⟩
    · have hb : ((l1.length : Int) != made) = true := bne_iff_ne.2 hlen
      have HL := Lib.hid hlen
      clear hlen
      go_wp2_with fail
      go_ret
      exact ⟨by rw [HK.out, if_neg (fun h => HL.out h.2)]; rfl, HB1.out⟩
def impl_CellsFit.f (a0 : ByteArray) (l1 : List Int) : Option Bool :=
  if a0.size ≤ 1048576 ∧ (∀ x ∈ l1, -9223372036854775808 ≤ x ∧ x ≤ 9223372036854775807) ∧ (toldOf a0).2.1 ≤ 1000000 ∧ (toldOf a0).1.length ≤ 600 ∧ ∀ e ∈ (toldOf a0).1, 1 ≤ e.f1 ∧ e.f1 ≤ (toldOf a0).2.1 then some (fitOf a0 l1) else none
theorem impl_CellsFit.calls (a0 : ByteArray) (A1 : Option Addr) (c1 : Nat) (l1 : List Int) (r : Bool) (w : World) (hr1 : Kd.C (Kd.int .i64) w A1 l1.length l1) (hc1 : l1.length ≤ c1) (hLd : LaidW w) (h : impl_CellsFit.f a0 l1 = some r) :
    Calls Tryd.prog 16 #[.string a0, .slice A1 l1.length c1] w fun e w' => e = .returned (.bool r) ∧ Below w.heap.size w w' := by
  unfold impl_CellsFit.f at h
  split at h
  · rename_i hh
    injection h with h
    subst h
    exact fit_any a0 A1 c1 l1 w hLd hh.1 hr1 hh.2.1 hh.2.2.1 hh.2.2.2.1 hh.2.2.2.2
  · cases h
end Go.Proofs.YtmhagppajcidcaaDoor.Pr
