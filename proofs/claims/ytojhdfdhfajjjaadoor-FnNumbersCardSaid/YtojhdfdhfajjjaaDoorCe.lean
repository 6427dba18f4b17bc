/- Ce: texts of this proof, joined. -/
import Derived.Test.YtojhdfdhfajjjaaDoorCa
import Derived.Test.YtojhdfdhfajjjaaDoorCb
namespace Go.Proofs.YtojhdfdhfajjjaaDoor
open Go.RowKit Pl
set_option maxHeartbeats 1600000 in
set_option maxRecDepth 1000000 in
theorem sstep_star (p : ByteArray) (n : Nat) (hp : p.size ≤ 80) (hB : ∀ m, n < m → SBodyC p m) (w : World) (b : Nat) (ar : ByteArray) (s : RS) (hr : SRd w b p s) (hsn : s.at_ = n) (hn : n < p.size) (har : ar.size ≤ n) (hdep : s.dep ≤ n) (hc : bAt p s.at_ = 42) : SStepP p w b ar s := by
  subst hsn
  have hlt := hr.lt
  have HE := Lib.hid (SStep_eq p ar s hn)
  unfold SStepP
  go_enter Tryd.func48, Tryd.ntmps48
  go_wp2_with fail
  go_cut [5] (fun v5 w1 => SHead w b p ar s v5 w1)
  case first =>
    clear hc
    generalize hW : w.alloc (.cells #[.int .u8 0, .int .i64 0, .int .i64 0, .string { data := #[] }, .slice none 0 0, .string { data := #[] }] 82) = W0
    have hr0 : SRd W0 b p s := by rw [← hW]; exact hr.grown (World.grownBy_alloc w _ none) (by simp)
    have k0 := hr0.c0
    have k1 := hr0.c1
    have ka : ∀ o, SRd (W0.alloc o) b p s := fun o => hr0.grown (World.grownBy_alloc W0 _ none) (by simp)
    have kb : ∀ o o', SRd ((W0.alloc o).alloc o') b p s := fun o o' => (ka o).grown (World.grownBy_alloc _ _ none) (by simp)
    have a0 := fun o => (ka o).c0
    have a1 := fun o => (ka o).c1
    have b0 := fun o o' => (kb o o').c0
    have b1 := fun o o' => (kb o o').c1
    have KB := Lib.hid kb
    clear ka kb
    go_region
    all_goals clear k0 k1 a0 a1 b0 b1
    · go_wp2_with fail
      go_meet
      exact shead1 hn hW (KB.out _ _)
    · go_wp2_with fail
      go_meet
      exact shead2 hn hW (KB.out _ _)
  case rest =>
    obtain ⟨g, gb, rfl, hr1, hg1, hN, hgg, hgb, hgn, hZ, hE⟩ := hcut
    clear hr
    have hbg : b ≠ g := by omega
    have hgb' : g ≠ b := by omega
    have h1 := hr1.c1
    have hf1 := hr1.fz 1
    go_upto_region 3 with fail
    generalize hW1 : wc.setCell ⟨b, 1, none⟩ (Value.int .i64 ((s.at_ : Int) + 1)) = W1
    have hr2 : SRd W1 b p ⟨s.at_ + 1, s.bad, s.dep⟩ := by rw [← hW1]; exact hr1.setAt (s.at_ + 1)
    have hN2 : SNode W1 g (bAt p s.at_) s.at_ 0 ByteArray.empty (.slice (some ⟨gb, 0, none⟩) 0 0) ar := by rw [← hW1]; exact hN.far hgb' _
    have hZ2 : SNode W1 w.heap.size 0 0 0 ByteArray.empty (.slice none 0 0) ByteArray.empty := by rw [← hW1]; exact hZ.far (by omega) _
    have hG2 : w.grownBy W1 (some b) := by rw [← hW1]; exact World.grownBy.trans hg1 (grown_set _ _ _ _)
    have hE2 : W1.heap[gb]? = some (.cells #[] 86 (0, 0)) := by rw [← hW1]; exact (Below.heap_setCell wc ⟨b, 1, none⟩ _ gb (by simp; omega)).trans hE
    clear hW1 hr1 hg1 hN hZ hE h1 hf1
    have hK := hN2.c0
    go_upto_block 0 with fail
    go_cut [] (fun w2 => SMid w b p ar s g w2)
    case first =>
      have hq : SStep p ar s = (⟨bAt p s.at_, s.at_, (SBody p ar 93 (sis p 91 (adv s))).2.at_, ByteArray.empty, ar, 1⟩, (SBody p ar 93 (sis p 91 (adv s))).1, .nil, (SBody p ar 93 (sis p 91 (adv s))).2) := by
        rw [HE.out, hc]
        rfl
      have HQ := Lib.hid hq
      clear hq HE
      have e0 : (((bAt p s.at_).toNat : Int) == 43) = false := by rw [hc]; rfl
      have e1 : (((bAt p s.at_).toNat : Int) == 45) = false := by rw [hc]; rfl
      have e2 : (((bAt p s.at_).toNat : Int) == 46) = false := by rw [hc]; rfl
      have e3 : (((bAt p s.at_).toNat : Int) == 126) = false := by rw [hc]; rfl
      have e4 : (((bAt p s.at_).toNat : Int) == 61) = false := by rw [hc]; rfl
      have e5 : (((bAt p s.at_).toNat : Int) == 94) = false := by rw [hc]; rfl
      have e6 : (((bAt p s.at_).toNat : Int) == 33) = false := by rw [hc]; rfl
      have e7 : (((bAt p s.at_).toNat : Int) == 63) = false := by rw [hc]; rfl
      have e8 : (((bAt p s.at_).toNat : Int) == 42) = true := by rw [hc]; rfl
      have e9 : (((bAt p s.at_).toNat : Int) == 123) = false := by rw [hc]; rfl
      clear hc hK
      go_wp2_with fail
      refine (is_any W1 b p (adv s) 91 91 rfl hr2 (by omega)).mono ?_
      rintro e w3 ⟨rfl, hr3, hg3⟩
      have HP := pushed_start hr3 (World.grownBy.trans hG2 hg3) (hN2.grown hg3 (by simp; omega)) (hZ2.grown hg3 (by simp; omega)) (far_of hg3 hE2 (by simp; omega)) hgb hgn
      have ht : s.at_ < (sis p 91 (adv s)).at_ := Nat.lt_of_lt_of_le (Nat.lt_succ_self _) (sis_ge p 91 (adv s))
      have hle : (sis p 91 (adv s)).at_ ≤ p.size := sis_le (s := adv s) hn
      have hdp : (sis p 91 (adv s)).dep = s.dep := sis_dep ..
      have hBB := hB _ ht
      clear hr2 hN2 hG2 hZ2 hE2 hg3 hr3
      generalize sis p 91 (adv s) = s3 at *
      have ha1 : ar.size ≤ s3.at_ := by omega
      have hd1 : s3.dep ≤ s3.at_ := by omega
      go_wp2_with fail
      have n4 := HP.node.c4
      have f4 := HP.node.fz 4
      have h93 : ((93 : UInt8).toNat : Int) = 93 := rfl
      have hX := hBB w3.drew b ar s3 93 93 h93 (HP.rd.drewN 1) rfl hle ha1 hd1
      have hN3d := HP.node.drewN 1
      have hO3d : Own w3.drew (fun j => j = gb) 86 (.slice (some ⟨gb, 0, none⟩) 0 0) [] := HP.row.drewN 1
      have hgb3 : some g ≠ some b := by simp; omega
      have hgb4 : ∀ j, j = gb → some j ≠ some b := fun j hj => by have := HP.far; simp; omega
      have hl1 : (0 + 1) * 24 ≤ 140737488355328 := by omega
      have hl2 : 0 + 1 ≤ maxLen := by simp [maxLen]
      have gbg : some g ≠ some gb := by have := HP.far; simp; omega
      obtain ⟨i0, hi0, hz0, hz1, hz2⟩ := info_parts info54
      have XP := Lib.hid HP
      clear HP
      go_region_law (first
          | (refine step_append_lies _ (by rfl) _ _ _ (by rfl) 0 86 i0 _ 1 24 Tryd.underlying80 hi0 hz0 hz1 hz2 rfl (by omega) (.slice (some ⟨gb, 0, none⟩) 0 0) 0 [] (by rfl) (hO4.row.alloc _)
              ⟨w4.heap.size, 0, none⟩ 1 1 [.slice A (SBody p ar 93 s3).1.len cp] (by rfl) (by rfl) (World.news_of_block (cs := #[.slice A (SBody p ar 93 s3).1.len cp]) (t := 86) (fr := (0, 0)) (heap_alloc_new w4 _)) (by simp [Value.oneCell'])
              (by omega) hl2 hl1 (Nat.zero_le _) (w4.heap.size + 1) (by simp) ?_
             intro g5 cap5 w5 hown5 hgrow5 hat5 hlt5
             have hN5 := (hN4.grown (World.grownBy_alloc w4 (.cells #[.slice A (SBody p ar 93 s3).1.len cp] 86) none) (by simp)).grown hgrow5 gbg
             have n5 := hN5.c4
             have f5 := hN5.fz 4)
          | (go_simp
             go_at_call 61
             refine hX.mono ?_
             rintro e w4 ⟨v, cs, rfl, hr4, hg4, sc4, so4⟩
             obtain ⟨A, cp, rfl⟩ := so4.form
             have hN4 := SNode.grown hN3d hg4 hgb3
             have n4' := hN4.c4
             have f4' := hN4.fz 4
             have hO4 := hO3d.grown hg4 hgb4
             have n4'' := fun o => (hN4.grown (World.grownBy_alloc w4 o none) (by simp)).c4))
      all_goals
        go_wp2_with fail
        go_meet
        exact smid_of1 HQ.out rfl rfl (push XP.out hgg hlt hr4 hg4 sc4 so4 hown5 hgrow5 hat5 rfl)
    case rest =>
      obtain ⟨bs, v0, v1, c0, c1, hr3, hG3, hN3, hZ3, sc0, so0, sc1, so1, hnb, sbs, he⟩ := hcut
      obtain ⟨A, mm, cp, rfl⟩ : ∃ A m c, bs = .slice A m c := by
        obtain ⟨A, c, h⟩ := sbs.form
        exact ⟨A, _, c, h⟩
      clear hr2 hN2 hZ2 hG2 hE2 hK
      have h1 := hr3.c1
      have n0 := hN3.c0
      have n1 := hN3.c1
      have n2 := hN3.c2
      have n3 := hN3.c3
      have n4 := hN3.c4
      have n5 := hN3.c5
      have f2 := hN3.fz 2
      have z0 := hZ3.c0
      have z1 := hZ3.c1
      have z2 := hZ3.c2
      have z3 := hZ3.c3
      have z4 := hZ3.c4
      have z5 := hZ3.c5
      have y := hZ3.fz
      have hrg : w.heap.size ≠ g := by omega
      have hgr : g ≠ w.heap.size := by omega
      go_wp2_with fail
      exact bodyPost_ret_by (ret56 rfl (SNode.setSix (hZ3.far hrg _))) rfl (sstep_out hgg hlt hr3 hG3 sc0 so0 sc1 so1 hnb sbs he rfl)
end Go.Proofs.YtojhdfdhfajjjaaDoor
