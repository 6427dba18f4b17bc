/- Cc: texts of this proof, joined. -/
import Derived.Test.YtojhdfdhfajjjaaDoorCa
import Derived.Test.YtojhdfdhfajjjaaDoorCb
namespace Go.Proofs.YtojhdfdhfajjjaaDoor
open Go.RowKit Pl
set_option maxHeartbeats 1600000 in
set_option maxRecDepth 1000000 in
theorem sstep_one (p : ByteArray) (n : Nat) (hp : p.size ≤ 80) (hB : ∀ m, n < m → SBodyC p m) (w : World) (b : Nat) (ar : ByteArray) (s : RS) (hr : SRd w b p s) (hsn : s.at_ = n) (hn : n < p.size) (har : ar.size ≤ n) (hdep : s.dep ≤ n) (hc : bAt p s.at_ = 94 ∨ bAt p s.at_ = 33) : SStepP p w b ar s := by
 subst hsn
 have hlt := hr.lt
 have HE := Lib.hid (SStep_eq p ar s hn)
 unfold SStepP
 go_enter Tryd.func48, Tryd.ntmps48
 go_wp2_with fail
 go_cut [5] (fun v5 w1 => SHead w b p ar s v5 w1)
 case first =>
  clear hc
  generalize hW : w.alloc (.cells #[.int .u8 0, .int .i64 0, .int .i64 0, .string { data := #[] }, .slice none 0 0, .string { data := #[] }] 82) = W0
  have hr0 : SRd W0 b p s := by rw [← hW]; exact hr.grown (World.grownBy_alloc w _ none) (by simp)
  have k0 := hr0.c0
  have k1 := hr0.c1
  have ka : ∀ o, SRd (W0.alloc o) b p s := fun o => hr0.grown (World.grownBy_alloc W0 _ none) (by simp)
  have kb : ∀ o o', SRd ((W0.alloc o).alloc o') b p s := fun o o' => (ka o).grown (World.grownBy_alloc _ _ none) (by simp)
  have a0 := fun o => (ka o).c0
  have a1 := fun o => (ka o).c1
  have b0 := fun o o' => (kb o o').c0
  have b1 := fun o o' => (kb o o').c1
  have KB := Lib.hid kb
  clear ka kb
  go_region
  all_goals clear k0 k1 a0 a1 b0 b1
  ·go_wp2_with fail
   go_meet
   exact shead1 hn hW (KB.out _ _)
  ·go_wp2_with fail
   go_meet
   exact shead2 hn hW (KB.out _ _)
 case rest =>
  obtain ⟨g, gb, rfl, hr1, hg1, hN, hgg, hgb, hgn, hZ, hE⟩ := hcut
  clear hr
  have hbg : b ≠ g := by omega
  have hgb' : g ≠ b := by omega
  have h1 := hr1.c1
  have hf1 := hr1.fz 1
  go_upto_region 3 with fail
  generalize hW1 : wc.setCell ⟨b, 1, none⟩ (Value.int .i64 ((s.at_ : Int) + 1)) = W1
  have hr2 : SRd W1 b p ⟨s.at_ + 1, s.bad, s.dep⟩ := by rw [← hW1]; exact hr1.setAt (s.at_ + 1)
  have hN2 : SNode W1 g (bAt p s.at_) s.at_ 0 ByteArray.empty (.slice (some ⟨gb, 0, none⟩) 0 0) ar := by rw [← hW1]; exact hN.far hgb' _
  have hZ2 : SNode W1 w.heap.size 0 0 0 ByteArray.empty (.slice none 0 0) ByteArray.empty := by rw [← hW1]; exact hZ.far (by omega) _
  have hG2 : w.grownBy W1 (some b) := by rw [← hW1]; exact World.grownBy.trans hg1 (grown_set _ _ _ _)
  have hE2 : W1.heap[gb]? = some (.cells #[] 86 (0, 0)) := by rw [← hW1]; exact (Below.heap_setCell wc ⟨b, 1, none⟩ _ gb (by simp; omega)).trans hE
  clear hW1 hr1 hg1 hN hZ hE h1 hf1
  have hK := hN2.c0
  go_upto_block 0 with fail
  go_cut [] (fun w2 => SMid w b p ar s g w2)
  case first =>
   have hq : SStep p ar s = (⟨bAt p s.at_, s.at_, s.at_ + 1, ByteArray.empty, ar, 0⟩, .nil, .nil, adv s) := by
    rw [HE.out]
    rcases hc with hc | hc <;> rw [hc] <;> rfl
   have HQ := Lib.hid hq
   clear hq HE
   rcases hc with hc | hc
   ·have e0 : (((bAt p s.at_).toNat : Int) == 43) = false := by rw [hc]; rfl
    have e1 : (((bAt p s.at_).toNat : Int) == 45) = false := by rw [hc]; rfl
    have e2 : (((bAt p s.at_).toNat : Int) == 46) = false := by rw [hc]; rfl
    have e3 : (((bAt p s.at_).toNat : Int) == 126) = false := by rw [hc]; rfl
    have e4 : (((bAt p s.at_).toNat : Int) == 61) = false := by rw [hc]; rfl
    have e5 : (((bAt p s.at_).toNat : Int) == 94) = true := by rw [hc]; rfl
    have e6 : (((bAt p s.at_).toNat : Int) == 33) = false := by rw [hc]; rfl
    have e7 : (((bAt p s.at_).toNat : Int) == 63) = false := by rw [hc]; rfl
    have e8 : (((bAt p s.at_).toNat : Int) == 42) = false := by rw [hc]; rfl
    have e9 : (((bAt p s.at_).toNat : Int) == 123) = false := by rw [hc]; rfl
    clear hc hK
    go_wp2_with fail
    go_meet
    exact smid_leaf HQ.out rfl hr2 hG2 hN2 hZ2 hE2 hgb hgn rfl
   ·have e0 : (((bAt p s.at_).toNat : Int) == 43) = false := by rw [hc]; rfl
    have e1 : (((bAt p s.at_).toNat : Int) == 45) = false := by rw [hc]; rfl
    have e2 : (((bAt p s.at_).toNat : Int) == 46) = false := by rw [hc]; rfl
    have e3 : (((bAt p s.at_).toNat : Int) == 126) = false := by rw [hc]; rfl
    have e4 : (((bAt p s.at_).toNat : Int) == 61) = false := by rw [hc]; rfl
    have e5 : (((bAt p s.at_).toNat : Int) == 94) = false := by rw [hc]; rfl
    have e6 : (((bAt p s.at_).toNat : Int) == 33) = true := by rw [hc]; rfl
    have e7 : (((bAt p s.at_).toNat : Int) == 63) = false := by rw [hc]; rfl
    have e8 : (((bAt p s.at_).toNat : Int) == 42) = false := by rw [hc]; rfl
    have e9 : (((bAt p s.at_).toNat : Int) == 123) = false := by rw [hc]; rfl
    clear hc hK
    go_wp2_with fail
    go_meet
    exact smid_leaf HQ.out rfl hr2 hG2 hN2 hZ2 hE2 hgb hgn rfl
  case rest =>
   obtain ⟨bs, v0, v1, c0, c1, hr3, hG3, hN3, hZ3, sc0, so0, sc1, so1, hnb, sbs, he⟩ := hcut
   obtain ⟨A, mm, cp, rfl⟩ : ∃ A m c, bs = .slice A m c := by
    obtain ⟨A, c, h⟩ := sbs.form
    exact ⟨A, _, c, h⟩
   clear hr2 hN2 hZ2 hG2 hE2 hK
   have h1 := hr3.c1
   have n0 := hN3.c0
   have n1 := hN3.c1
   have n2 := hN3.c2
   have n3 := hN3.c3
   have n4 := hN3.c4
   have n5 := hN3.c5
   have f2 := hN3.fz 2
   have z0 := hZ3.c0
   have z1 := hZ3.c1
   have z2 := hZ3.c2
   have z3 := hZ3.c3
   have z4 := hZ3.c4
   have z5 := hZ3.c5
   have y := hZ3.fz
   have hrg : w.heap.size ≠ g := by omega
   have hgr : g ≠ w.heap.size := by omega
   go_wp2_with fail
   exact bodyPost_ret_by (ret56 rfl (SNode.setSix (hZ3.far hrg _))) rfl (sstep_out hgg hlt hr3 hG3 sc0 so0 sc1 so1 hnb sbs he rfl)
end Go.Proofs.YtojhdfdhfajjjaaDoor
namespace Go.Proofs.YtojhdfdhfajjjaaDoor
open Go.RowKit Pl
set_option maxHeartbeats 1600000 in
set_option maxRecDepth 1000000 in
theorem sstep_var (p : ByteArray) (n : Nat) (hp : p.size ≤ 80) (hB : ∀ m, n < m → SBodyC p m) (w : World) (b : Nat) (ar : ByteArray) (s : RS) (hr : SRd w b p s) (hsn : s.at_ = n) (hn : n < p.size) (har : ar.size ≤ n) (hdep : s.dep ≤ n) (hc : bAt p s.at_ = 43 ∨ bAt p s.at_ = 45 ∨ bAt p s.at_ = 46 ∨ bAt p s.at_ = 126) : SStepP p w b ar s := by
 subst hsn
 have hlt := hr.lt
 have HE := Lib.hid (SStep_eq p ar s hn)
 unfold SStepP
 go_enter Tryd.func48, Tryd.ntmps48
 go_wp2_with fail
 go_cut [5] (fun v5 w1 => SHead w b p ar s v5 w1)
 case first =>
  clear hc
  generalize hW : w.alloc (.cells #[.int .u8 0, .int .i64 0, .int .i64 0, .string { data := #[] }, .slice none 0 0, .string { data := #[] }] 82) = W0
  have hr0 : SRd W0 b p s := by rw [← hW]; exact hr.grown (World.grownBy_alloc w _ none) (by simp)
  have k0 := hr0.c0
  have k1 := hr0.c1
  have ka : ∀ o, SRd (W0.alloc o) b p s := fun o => hr0.grown (World.grownBy_alloc W0 _ none) (by simp)
  have kb : ∀ o o', SRd ((W0.alloc o).alloc o') b p s := fun o o' => (ka o).grown (World.grownBy_alloc _ _ none) (by simp)
  have a0 := fun o => (ka o).c0
  have a1 := fun o => (ka o).c1
  have b0 := fun o o' => (kb o o').c0
  have b1 := fun o o' => (kb o o').c1
  have KB := Lib.hid kb
  clear ka kb
  go_region
  all_goals clear k0 k1 a0 a1 b0 b1
  ·go_wp2_with fail
   go_meet
   exact shead1 hn hW (KB.out _ _)
  ·go_wp2_with fail
   go_meet
   exact shead2 hn hW (KB.out _ _)
 case rest =>
  obtain ⟨g, gb, rfl, hr1, hg1, hN, hgg, hgb, hgn, hZ, hE⟩ := hcut
  clear hr
  have hbg : b ≠ g := by omega
  have hgb' : g ≠ b := by omega
  have h1 := hr1.c1
  have hf1 := hr1.fz 1
  go_upto_region 3 with fail
  generalize hW1 : wc.setCell ⟨b, 1, none⟩ (Value.int .i64 ((s.at_ : Int) + 1)) = W1
  have hr2 : SRd W1 b p ⟨s.at_ + 1, s.bad, s.dep⟩ := by rw [← hW1]; exact hr1.setAt (s.at_ + 1)
  have hN2 : SNode W1 g (bAt p s.at_) s.at_ 0 ByteArray.empty (.slice (some ⟨gb, 0, none⟩) 0 0) ar := by rw [← hW1]; exact hN.far hgb' _
  have hZ2 : SNode W1 w.heap.size 0 0 0 ByteArray.empty (.slice none 0 0) ByteArray.empty := by rw [← hW1]; exact hZ.far (by omega) _
  have hG2 : w.grownBy W1 (some b) := by rw [← hW1]; exact World.grownBy.trans hg1 (grown_set _ _ _ _)
  have hE2 : W1.heap[gb]? = some (.cells #[] 86 (0, 0)) := by rw [← hW1]; exact (Below.heap_setCell wc ⟨b, 1, none⟩ _ gb (by simp; omega)).trans hE
  clear hW1 hr1 hg1 hN hZ hE h1 hf1
  have hK := hN2.c0
  go_upto_block 0 with fail
  go_cut [] (fun w2 => SMid w b p ar s g w2)
  case first =>
   have hq : SStep p ar s = (⟨bAt p s.at_, s.at_, (svar p ar (adv s)).2.at_, (svar p ar (adv s)).1, ar, 0⟩, .nil, .nil, (svar p ar (adv s)).2) := by
    rw [HE.out]
    rcases hc with hc | hc | hc | hc <;> rw [hc] <;> rfl
   have HQ := Lib.hid hq
   clear hq HE
   rcases hc with hc | hc | hc | hc
   ·have e0 : (((bAt p s.at_).toNat : Int) == 43) = true := by rw [hc]; rfl
    have e1 : (((bAt p s.at_).toNat : Int) == 45) = false := by rw [hc]; rfl
    have e2 : (((bAt p s.at_).toNat : Int) == 46) = false := by rw [hc]; rfl
    have e3 : (((bAt p s.at_).toNat : Int) == 126) = false := by rw [hc]; rfl
    have e4 : (((bAt p s.at_).toNat : Int) == 61) = false := by rw [hc]; rfl
    have e5 : (((bAt p s.at_).toNat : Int) == 94) = false := by rw [hc]; rfl
    have e6 : (((bAt p s.at_).toNat : Int) == 33) = false := by rw [hc]; rfl
    have e7 : (((bAt p s.at_).toNat : Int) == 63) = false := by rw [hc]; rfl
    have e8 : (((bAt p s.at_).toNat : Int) == 42) = false := by rw [hc]; rfl
    have e9 : (((bAt p s.at_).toNat : Int) == 123) = false := by rw [hc]; rfl
    clear hc hK
    go_wp2_with fail
    refine (variable_any W1 b p ar (adv s) hr2 (by omega) (by omega)).mono ?_
    rintro e w3 ⟨rfl, hr3, hg3⟩
    have hN3 := hN2.grown hg3 (by simp; omega)
    have n3 := hN3.c3
    have f3 := hN3.fz 3
    go_wp2_with fail
    go_meet
    refine smid_leaf HQ.out rfl (hr3.far hbg _) ((World.grownBy.trans hG2 hg3).andThen (grown_set w3 g 3 _) (fun j hj => by cases hj; exact .inl (by omega))) (hN3.setVars _) ((hZ2.grown hg3 (by simp; omega)).far (by omega) _) (far_set (far_of hg3 hE2 (by simp; omega)) _ hgn) hgb hgn rfl
   ·have e0 : (((bAt p s.at_).toNat : Int) == 43) = false := by rw [hc]; rfl
    have e1 : (((bAt p s.at_).toNat : Int) == 45) = true := by rw [hc]; rfl
    have e2 : (((bAt p s.at_).toNat : Int) == 46) = false := by rw [hc]; rfl
    have e3 : (((bAt p s.at_).toNat : Int) == 126) = false := by rw [hc]; rfl
    have e4 : (((bAt p s.at_).toNat : Int) == 61) = false := by rw [hc]; rfl
    have e5 : (((bAt p s.at_).toNat : Int) == 94) = false := by rw [hc]; rfl
    have e6 : (((bAt p s.at_).toNat : Int) == 33) = false := by rw [hc]; rfl
    have e7 : (((bAt p s.at_).toNat : Int) == 63) = false := by rw [hc]; rfl
    have e8 : (((bAt p s.at_).toNat : Int) == 42) = false := by rw [hc]; rfl
    have e9 : (((bAt p s.at_).toNat : Int) == 123) = false := by rw [hc]; rfl
    clear hc hK
    go_wp2_with fail
    refine (variable_any W1 b p ar (adv s) hr2 (by omega) (by omega)).mono ?_
    rintro e w3 ⟨rfl, hr3, hg3⟩
    have hN3 := hN2.grown hg3 (by simp; omega)
    have n3 := hN3.c3
    have f3 := hN3.fz 3
    go_wp2_with fail
    go_meet
    refine smid_leaf HQ.out rfl (hr3.far hbg _) ((World.grownBy.trans hG2 hg3).andThen (grown_set w3 g 3 _) (fun j hj => by cases hj; exact .inl (by omega))) (hN3.setVars _) ((hZ2.grown hg3 (by simp; omega)).far (by omega) _) (far_set (far_of hg3 hE2 (by simp; omega)) _ hgn) hgb hgn rfl
   ·have e0 : (((bAt p s.at_).toNat : Int) == 43) = false := by rw [hc]; rfl
    have e1 : (((bAt p s.at_).toNat : Int) == 45) = false := by rw [hc]; rfl
    have e2 : (((bAt p s.at_).toNat : Int) == 46) = true := by rw [hc]; rfl
    have e3 : (((bAt p s.at_).toNat : Int) == 126) = false := by rw [hc]; rfl
    have e4 : (((bAt p s.at_).toNat : Int) == 61) = false := by rw [hc]; rfl
    have e5 : (((bAt p s.at_).toNat : Int) == 94) = false := by rw [hc]; rfl
    have e6 : (((bAt p s.at_).toNat : Int) == 33) = false := by rw [hc]; rfl
    have e7 : (((bAt p s.at_).toNat : Int) == 63) = false := by rw [hc]; rfl
    have e8 : (((bAt p s.at_).toNat : Int) == 42) = false := by rw [hc]; rfl
    have e9 : (((bAt p s.at_).toNat : Int) == 123) = false := by rw [hc]; rfl
    clear hc hK
    go_wp2_with fail
    refine (variable_any W1 b p ar (adv s) hr2 (by omega) (by omega)).mono ?_
    rintro e w3 ⟨rfl, hr3, hg3⟩
    have hN3 := hN2.grown hg3 (by simp; omega)
    have n3 := hN3.c3
    have f3 := hN3.fz 3
    go_wp2_with fail
    go_meet
    refine smid_leaf HQ.out rfl (hr3.far hbg _) ((World.grownBy.trans hG2 hg3).andThen (grown_set w3 g 3 _) (fun j hj => by cases hj; exact .inl (by omega))) (hN3.setVars _) ((hZ2.grown hg3 (by simp; omega)).far (by omega) _) (far_set (far_of hg3 hE2 (by simp; omega)) _ hgn) hgb hgn rfl
   ·have e0 : (((bAt p s.at_).toNat : Int) == 43) = false := by rw [hc]; rfl
    have e1 : (((bAt p s.at_).toNat : Int) == 45) = false := by rw [hc]; rfl
    have e2 : (((bAt p s.at_).toNat : Int) == 46) = false := by rw [hc]; rfl
    have e3 : (((bAt p s.at_).toNat : Int) == 126) = true := by rw [hc]; rfl
    have e4 : (((bAt p s.at_).toNat : Int) == 61) = false := by rw [hc]; rfl
    have e5 : (((bAt p s.at_).toNat : Int) == 94) = false := by rw [hc]; rfl
    have e6 : (((bAt p s.at_).toNat : Int) == 33) = false := by rw [hc]; rfl
    have e7 : (((bAt p s.at_).toNat : Int) == 63) = false := by rw [hc]; rfl
    have e8 : (((bAt p s.at_).toNat : Int) == 42) = false := by rw [hc]; rfl
    have e9 : (((bAt p s.at_).toNat : Int) == 123) = false := by rw [hc]; rfl
    clear hc hK
    go_wp2_with fail
    refine (variable_any W1 b p ar (adv s) hr2 (by omega) (by omega)).mono ?_
    rintro e w3 ⟨rfl, hr3, hg3⟩
    have hN3 := hN2.grown hg3 (by simp; omega)
    have n3 := hN3.c3
    have f3 := hN3.fz 3
    go_wp2_with fail
    go_meet
    refine smid_leaf HQ.out rfl (hr3.far hbg _) ((World.grownBy.trans hG2 hg3).andThen (grown_set w3 g 3 _) (fun j hj => by cases hj; exact .inl (by omega))) (hN3.setVars _) ((hZ2.grown hg3 (by simp; omega)).far (by omega) _) (far_set (far_of hg3 hE2 (by simp; omega)) _ hgn) hgb hgn rfl
  case rest =>
   obtain ⟨bs, v0, v1, c0, c1, hr3, hG3, hN3, hZ3, sc0, so0, sc1, so1, hnb, sbs, he⟩ := hcut
   obtain ⟨A, mm, cp, rfl⟩ : ∃ A m c, bs = .slice A m c := by
    obtain ⟨A, c, h⟩ := sbs.form
    exact ⟨A, _, c, h⟩
   clear hr2 hN2 hZ2 hG2 hE2 hK
   have h1 := hr3.c1
   have n0 := hN3.c0
   have n1 := hN3.c1
   have n2 := hN3.c2
   have n3 := hN3.c3
   have n4 := hN3.c4
   have n5 := hN3.c5
   have f2 := hN3.fz 2
   have z0 := hZ3.c0
   have z1 := hZ3.c1
   have z2 := hZ3.c2
   have z3 := hZ3.c3
   have z4 := hZ3.c4
   have z5 := hZ3.c5
   have y := hZ3.fz
   have hrg : w.heap.size ≠ g := by omega
   have hgr : g ≠ w.heap.size := by omega
   go_wp2_with fail
   exact bodyPost_ret_by (ret56 rfl (SNode.setSix (hZ3.far hrg _))) rfl (sstep_out hgg hlt hr3 hG3 sc0 so0 sc1 so1 hnb sbs he rfl)
end Go.Proofs.YtojhdfdhfajjjaaDoor
