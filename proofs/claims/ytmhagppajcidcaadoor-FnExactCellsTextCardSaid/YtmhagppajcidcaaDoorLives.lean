/- The contract of the program's 'lives': the lives of values. -/
import Derived.Test.YtmhagppajcidcaaDoorTmap
import Derived.Test.YtmhagppajcidcaaDoorQ0
import Derived.Deep.RegionWith
import Derived.RegionTactic
import Derived.Handy
import Derived.Outline
import Derived.Deep.DeepCutAuto
import Derived.Deep.CutBlock
import Derived.Deep.QuietTactic
import Derived.BigQuiet
import Derived.BigCall
import Derived.BigRegion
namespace Go.Proofs.YtmhagppajcidcaaDoor.Pr
open Go.RowKit Go.Proofs.YtmhagppajcidcaaDoorW.PrintWords Go.Proofs.YtmhagppajcidcaaDoorW.PrintLast

def lvset (xs : List S44) (i : Int) (e : S50) : List S44 :=
  if e.f0.toList = [43] then xs.set (e.f1 - 1).toNat ⟨i, i, -1⟩
  else if e.f0.toList = [46] then xs.set (e.f1 - 1).toNat ⟨(rd_T44 xs (e.f1 - 1)).f0, i, (rd_T44 xs (e.f1 - 1)).f2⟩
  else if e.f0.toList = [45] then xs.set (e.f1 - 1).toNat ⟨(rd_T44 xs (e.f1 - 1)).f0, (rd_T44 xs (e.f1 - 1)).f1, i⟩
  else xs
def lvloop : List S50 → Int → List S44 → List S44
  | [], _, xs => xs
  | e :: r, i, xs => lvloop r (i + 1) (lvset xs i e)
def impl_lives.f (l0 : List S50) (a1 : Int) : Option (List S44) :=
  if 0 ≤ a1 ∧ a1 ≤ 1000000 ∧ l0.length ≤ 1000000 ∧ ∀ e ∈ l0, 1 ≤ e.f1 ∧ e.f1 ≤ a1 then some (lvloop l0 0 (List.replicate a1.toNat z44)) else none
theorem lvset_length (xs : List S44) (i : Int) (e : S50) : (lvset xs i e).length = xs.length := by
  unfold lvset
  split
  · simp
  · split
    · simp
    · split
      · simp
      · rfl
theorem lvloop_drop {l : List S50} {k : Nat} (hk : k < l.length) (xs : List S44) : lvloop (l.drop k) k xs = lvloop (l.drop (k + 1)) ((k + 1 : Nat) : Int) (lvset xs k l[k]) := by
  rw [List.drop_eq_getElem_cons hk, lvloop]
  rfl
theorem below_al {w : World} (o : Obj) : Below w.heap.size w (w.alloc o) := (Below.refl _ w).alloc (Nat.le_refl _) o
def LvIn (w wr : World) (v : Value) (xs : List S44) : Prop := Kd.R k44 44 wr w.heap.size (fun _ => True) v xs ∧ Below w.heap.size w wr
def LvRel (w : World) (l0 : List S50) (a1 : Int) (v5 v13 : Value) (wr : World) : Prop :=
  ∃ (k : Nat) (xs : List S44), k ≤ l0.length ∧ v13 = .int .i64 k ∧ lvloop l0 0 (List.replicate a1.toNat z44) = lvloop (l0.drop k) k xs ∧ xs.length = a1.toNat ∧ LvIn w wr v5 xs
set_option maxHeartbeats 4000000 in
set_option maxRecDepth 1000000 in
theorem lives_any (A0 : Option Addr) (c0 : Nat) (l0 : List S50) (a1 : Int) (w : World) (hr0 : Kd.C k50 w A0 l0.length l0) (h1 : 0 ≤ a1) (h2 : a1 ≤ 1000000) (h3 : l0.length ≤ 1000000) (h4 : ∀ e ∈ l0, 1 ≤ e.f1 ∧ e.f1 ≤ a1) :
    Calls Tryd.prog 38 #[.slice A0 l0.length c0, .int .i64 a1] w fun e w' => ∃ v0_ : Value, e = .returned v0_ ∧ LvIn w w' v0_ (lvloop l0 0 (List.replicate a1.toNat z44)) := by
  have HR0 := Lib.hid hr0
  have H4 := Lib.hid h4
  clear hr0 h4
  go_enter Tryd.func38, Tryd.ntmps38
  go_wp2_with ((with_reducible refine gate_dst (N := 10) rfl ?_); refine Kd.R_make k44 (w0 := w) w.heap.size 44 rfl (N := 10) rfl 41 _ _ rfl a1 rfl rfl Tryd.underlying41 (.agg #[(.int .i64 0), (.int .i64 0), (.int .i64 0)]) 24 info44 rfl (by decide) (by omega) z44 (ok := fun _ => True) (okp := fun _ => True) (k44_mkM _ _ _ z44) (fun _ hk => hk) trivial (by omega) (by omega) (Below.refl _ _) (Nat.le_refl _) ?_; intro v1 w1 ho1 hb1 hg_ hz_; clear hg_ hz_; have HI := Lib.hid (show LvIn w w1 v1 _ from ⟨ho1, hb1⟩); clear ho1 hb1)
  go_loopw [13] (fun v13 wr => LvRel w l0 a1 v1 v13 wr) (fun v13 _ => l0.length - (intOf v13).toNat)
  case atStart => exact ⟨0, _, Nat.zero_le _, rfl, rfl, by simp, HI.out⟩
  case round =>
    clear HI
    obtain ⟨k, xs, hk, rfl, hT, hxl, hI⟩ := hrel
    have HT := Lib.hid hT
    have HI := Lib.hid hI
    clear hT hI
    by_cases hlt : k < l0.length
    · have he := H4.out _ (List.getElem_mem hlt)
      obtain ⟨ad, hA, hx0, hx1⟩ := at_T50 (Kd.C_below (HR0.out) HI.out.2) (k : Int) (by omega) (by omega)
      have HD := Lib.hid (HT.out.trans (lvloop_drop hlt xs))
      rw [show rd_T50 l0 (k : Int) = l0[k] by unfold rd_T50; simp [hlt]] at hx0 hx1
      simp only [Int.toNat_natCast] at hx0 hx1
      generalize l0[k] = e at *
      clear HT
      obtain ⟨g, cap, hv, hbg, hgl, cells, hcells⟩ := Kd.R_form HI.out.1 (by omega)
      subst hA hv
      have HBG := Lib.hid hbg
      clear hbg hgl hcells
      go_upto_region 7 with fail
      have HI4 := Lib.hid (show LvIn w (wr.alloc (.cells #[.string e.f0, .int .i64 e.f1] 50)) (.slice (some ⟨g, 0, none⟩) xs.length cap) xs from ⟨Kd.R_below HI.out.1 (below_al _), HI.out.2.trans ((below_al _).mono HI.out.2.size)⟩)
      obtain ⟨W4, hW4⟩ : ∃ W4, W4 = wr.alloc (.cells #[.string e.f0, .int .i64 e.f1] 50) := ⟨_, rfl⟩
      rw [← hW4] at HI4 ⊢
      clear hW4 hx0 hx1 HI
      have hp : 0 ≤ e.f1 - 1 := by omega
      have hq : e.f1 - 1 < (xs.length : Int) := by omega
      obtain ⟨ce, hcl, hM, hcc, hfr⟩ := Kd.R_elem HI4.out.1 z44 (e.f1 - 1) hp hq
      obtain rfl := k44_openM hM
      have hto : (e.f1 - 1).toNat = e.f1.toNat - 1 := by omega
      have y0 := hcc 0 _ rfl
      have y1 := hcc 1 _ rfl
      have y2 := hcc 2 _ rfl
      have g0 := hfr 0
      have g1 := hfr 1
      have g2 := hfr 2
      simp only [show (k44).sz = 3 from rfl, hto, Nat.add_zero] at y0 y1 y2 g0 g1 g2
      have HCC := Lib.hid hcc
      clear hcc hfr hM hcl
      by_cases s43 : e.f0.toList = [43]
      · have b43 : (e.f0.toList == [43]) = true := beq_iff_eq.2 s43
        have HS := Lib.hid (show lvset xs k e = xs.set (e.f1 - 1).toNat ⟨k, k, -1⟩ by unfold lvset; rw [if_pos s43])
        have HP := Lib.hid (Kd.R_seg HI4.out.1 (e.f1 - 1) hp hq (seg := [.int .i64 k, .int .i64 k, .int .i64 (-1)]) (j := 0) rfl HCC.out (show 3 ≤ 3 from by decide) (x' := (⟨k, k, -1⟩ : S44)) (k44_mkM _ _ _ (⟨k, k, -1⟩ : S44)) (fun _ hk => hk))
        clear s43 hp hq
        go_wp2_with fail
        go_roundw
        case rel =>
          have hP := HP.out.1
          rw [← HS.out, hto] at hP
          exact ⟨k + 1, lvset xs k e, hlt, by go_num, HD.out, (lvset_length ..).trans hxl, hP, below_set (below_set (below_set HI4.out.2 HBG.out) HBG.out) HBG.out⟩
        case measure => simp [intOf]; omega
      · have b43 : (e.f0.toList == [43]) = false := beq_eq_false_iff_ne.2 s43
        by_cases s46 : e.f0.toList = [46]
        · have b46 : (e.f0.toList == [46]) = true := beq_iff_eq.2 s46
          have HS := Lib.hid (show lvset xs k e = xs.set (e.f1 - 1).toNat ⟨(xs.getD (e.f1 - 1).toNat z44).f0, k, (xs.getD (e.f1 - 1).toNat z44).f2⟩ by unfold lvset; rw [if_neg s43, if_pos s46]; rfl)
          have HP := Lib.hid (Kd.R_seg HI4.out.1 (e.f1 - 1) hp hq (seg := [.int .i64 k]) (j := 1) rfl HCC.out (show 2 ≤ 3 from by decide) (x' := (⟨(xs.getD (e.f1 - 1).toNat z44).f0, k, (xs.getD (e.f1 - 1).toNat z44).f2⟩ : S44)) (k44_mkM _ _ _ (⟨(xs.getD (e.f1 - 1).toNat z44).f0, k, (xs.getD (e.f1 - 1).toNat z44).f2⟩ : S44)) (fun _ hk => hk))
          clear s43 s46 hp hq
          go_wp2_with fail
          go_roundw
          case rel =>
            have hP := HP.out.1
            rw [← HS.out, hto] at hP
            exact ⟨k + 1, lvset xs k e, hlt, by go_num, HD.out, (lvset_length ..).trans hxl, hP, below_set HI4.out.2 HBG.out⟩
          case measure => simp [intOf]; omega
        · have b46 : (e.f0.toList == [46]) = false := beq_eq_false_iff_ne.2 s46
          by_cases s45 : e.f0.toList = [45]
          · have b45 : (e.f0.toList == [45]) = true := beq_iff_eq.2 s45
            have HS := Lib.hid (show lvset xs k e = xs.set (e.f1 - 1).toNat ⟨(xs.getD (e.f1 - 1).toNat z44).f0, (xs.getD (e.f1 - 1).toNat z44).f1, k⟩ by unfold lvset; rw [if_neg s43, if_neg s46, if_pos s45]; rfl)
            have HP := Lib.hid (Kd.R_seg HI4.out.1 (e.f1 - 1) hp hq (seg := [.int .i64 k]) (j := 2) rfl HCC.out (show 3 ≤ 3 from by decide) (x' := (⟨(xs.getD (e.f1 - 1).toNat z44).f0, (xs.getD (e.f1 - 1).toNat z44).f1, k⟩ : S44)) (k44_mkM _ _ _ (⟨(xs.getD (e.f1 - 1).toNat z44).f0, (xs.getD (e.f1 - 1).toNat z44).f1, k⟩ : S44)) (fun _ hk => hk))
            clear s43 s46 s45 hp hq
            go_wp2_with fail
            go_roundw
            case rel =>
              have hP := HP.out.1
              rw [← HS.out, hto] at hP
              exact ⟨k + 1, lvset xs k e, hlt, by go_num, HD.out, (lvset_length ..).trans hxl, hP, below_set HI4.out.2 HBG.out⟩
            case measure => simp [intOf]; omega
          · have b45 : (e.f0.toList == [45]) = false := beq_eq_false_iff_ne.2 s45
            have HS := Lib.hid (show lvset xs k e = xs by unfold lvset; rw [if_neg s43, if_neg s46, if_neg s45])
            clear s43 s46 s45 hp hq
            go_wp2_with fail
            go_roundw
            case rel => exact ⟨k + 1, lvset xs k e, hlt, by go_num, HD.out, (lvset_length ..).trans hxl, by rw [HS.out]; exact HI4.out⟩
            case measure => simp [intOf]; omega
    · have hkn : k = l0.length := by omega
      subst hkn
      have HE := Lib.hid (show lvloop l0 0 (List.replicate a1.toNat z44) = xs by rw [HT.out, List.drop_length, lvloop])
      clear HT
      go_wp2_with fail
      go_ret
      exact ⟨_, rfl, by rw [HE.out]; exact HI.out⟩
theorem impl_lives.calls (A0 : Option Addr) (c0 : Nat) (l0 : List S50) (a1 : Int) (r : List S44) (w : World) (hr0 : Kd.C k50 w A0 l0.length l0) (_ : l0.length ≤ c0) (h : impl_lives.f l0 a1 = some r) :
    Calls Tryd.prog 38 #[.slice A0 l0.length c0, .int .i64 a1] w fun e w' => ∃ v0_ : Value, e = .returned (v0_) ∧ Kd.R k44 44 w' w.heap.size (fun _ => True) v0_ r ∧ Below w.heap.size w w' := by
  unfold impl_lives.f at h
  split at h
  · rename_i hh
    injection h with h
    subst h
    exact lives_any A0 c0 l0 a1 w hr0 hh.1 hh.2.1 hh.2.2.1 hh.2.2.2
  · cases h
end Go.Proofs.YtmhagppajcidcaaDoor.Pr
