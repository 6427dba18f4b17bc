/- Cd: texts of this proof, joined. -/
import Derived.Test.YtojhdfdhfajjjaaDoorCa
import Derived.Test.YtojhdfdhfajjjaaDoorCb
namespace Go.Proofs.YtojhdfdhfajjjaaDoor
open Go.RowKit Pl
set_option maxHeartbeats 1600000 in
set_option maxRecDepth 1000000 in
theorem sstep_no (p : ByteArray) (n : Nat) (hp : p.size ≤ 80) (hB : ∀ m, n < m → SBodyC p m) (w : World) (b : Nat) (ar : ByteArray) (s : RS) (hr : SRd w b p s) (hsn : s.at_ = n) (hn : n < p.size) (har : ar.size ≤ n) (hdep : s.dep ≤ n) (hc : ¬ bAt p s.at_ = 43 ∧ ¬ bAt p s.at_ = 45 ∧ ¬ bAt p s.at_ = 46 ∧ ¬ bAt p s.at_ = 126 ∧ ¬ bAt p s.at_ = 61 ∧ ¬ bAt p s.at_ = 94 ∧ ¬ bAt p s.at_ = 33 ∧ ¬ bAt p s.at_ = 63 ∧ ¬ bAt p s.at_ = 42 ∧ ¬ bAt p s.at_ = 123) : SStepP p w b ar s := by
 subst hsn
 have hlt := hr.lt
 have HE := Lib.hid (SStep_eq p ar s hn)
 unfold SStepP
 go_enter Tryd.func48, Tryd.ntmps48
 go_wp2_with fail
 go_cut [5] (fun v5 w1 => SHead w b p ar s v5 w1)
 case first =>
  clear hc
  generalize hW : w.alloc (.cells #[.int .u8 0, .int .i64 0, .int .i64 0, .string { data := #[] }, .slice none 0 0, .string { data := #[] }] 82) = W0
  have hr0 : SRd W0 b p s := by rw [← hW]; exact hr.grown (World.grownBy_alloc w _ none) (by simp)
  have k0 := hr0.c0
  have k1 := hr0.c1
  have ka : ∀ o, SRd (W0.alloc o) b p s := fun o => hr0.grown (World.grownBy_alloc W0 _ none) (by simp)
  have kb : ∀ o o', SRd ((W0.alloc o).alloc o') b p s := fun o o' => (ka o).grown (World.grownBy_alloc _ _ none) (by simp)
  have a0 := fun o => (ka o).c0
  have a1 := fun o => (ka o).c1
  have b0 := fun o o' => (kb o o').c0
  have b1 := fun o o' => (kb o o').c1
  have KB := Lib.hid kb
  clear ka kb
  go_region
  all_goals clear k0 k1 a0 a1 b0 b1
  ·go_wp2_with fail
   go_meet
   exact shead1 hn hW (KB.out _ _)
  ·go_wp2_with fail
   go_meet
   exact shead2 hn hW (KB.out _ _)
 case rest =>
  obtain ⟨g, gb, rfl, hr1, hg1, hN, hgg, hgb, hgn, hZ, hE⟩ := hcut
  clear hr
  have hbg : b ≠ g := by omega
  have hgb' : g ≠ b := by omega
  have h1 := hr1.c1
  have hf1 := hr1.fz 1
  go_upto_region 3 with fail
  generalize hW1 : wc.setCell ⟨b, 1, none⟩ (Value.int .i64 ((s.at_ : Int) + 1)) = W1
  have hr2 : SRd W1 b p ⟨s.at_ + 1, s.bad, s.dep⟩ := by rw [← hW1]; exact hr1.setAt (s.at_ + 1)
  have hN2 : SNode W1 g (bAt p s.at_) s.at_ 0 ByteArray.empty (.slice (some ⟨gb, 0, none⟩) 0 0) ar := by rw [← hW1]; exact hN.far hgb' _
  have hZ2 : SNode W1 w.heap.size 0 0 0 ByteArray.empty (.slice none 0 0) ByteArray.empty := by rw [← hW1]; exact hZ.far (by omega) _
  have hG2 : w.grownBy W1 (some b) := by rw [← hW1]; exact World.grownBy.trans hg1 (grown_set _ _ _ _)
  have hE2 : W1.heap[gb]? = some (.cells #[] 86 (0, 0)) := by rw [← hW1]; exact (Below.heap_setCell wc ⟨b, 1, none⟩ _ gb (by simp; omega)).trans hE
  clear hW1 hr1 hg1 hN hZ hE h1 hf1
  have hK := hN2.c0
  go_upto_block 0 with fail
  go_cut [] (fun w2 => SMid w b p ar s g w2)
  case first =>
   have hq : SStep p ar s = (⟨bAt p s.at_, s.at_, s.at_ + 1, ByteArray.empty, ar, 0⟩, .nil, .nil, badIf true (adv s)) := by
    rw [HE.out]
    simp only [hc.1, hc.2.1, hc.2.2.1, hc.2.2.2.1, hc.2.2.2.2.1, hc.2.2.2.2.2.1, hc.2.2.2.2.2.2.1, hc.2.2.2.2.2.2.2.1, hc.2.2.2.2.2.2.2.2.1, hc.2.2.2.2.2.2.2.2.2, or_self, if_false]
    rfl
   have HQ := Lib.hid hq
   have e0 := byte_ne (show (43 : UInt8).toNat = (43 : Int) from rfl) hc.1
   have e1 := byte_ne (show (45 : UInt8).toNat = (45 : Int) from rfl) hc.2.1
   have e2 := byte_ne (show (46 : UInt8).toNat = (46 : Int) from rfl) hc.2.2.1
   have e3 := byte_ne (show (126 : UInt8).toNat = (126 : Int) from rfl) hc.2.2.2.1
   have e4 := byte_ne (show (61 : UInt8).toNat = (61 : Int) from rfl) hc.2.2.2.2.1
   have e5 := byte_ne (show (94 : UInt8).toNat = (94 : Int) from rfl) hc.2.2.2.2.2.1
   have e6 := byte_ne (show (33 : UInt8).toNat = (33 : Int) from rfl) hc.2.2.2.2.2.2.1
   have e7 := byte_ne (show (63 : UInt8).toNat = (63 : Int) from rfl) hc.2.2.2.2.2.2.2.1
   have e8 := byte_ne (show (42 : UInt8).toNat = (42 : Int) from rfl) hc.2.2.2.2.2.2.2.2.1
   have e9 := byte_ne (show (123 : UInt8).toNat = (123 : Int) from rfl) hc.2.2.2.2.2.2.2.2.2
   have h2 := hr2.c2
   have f2 := hr2.fz 2
   clear hq HE hc
   go_wp2_with fail
   go_meet
   exact smid_leaf HQ.out rfl ((hr2.setBad true).badOr) (World.grownBy.trans hG2 (grown_set _ _ _ _)) (hN2.far hgb' _) (hZ2.far (by omega) _) (far_set hE2 _ (by omega)) hgb hgn rfl
  case rest =>
   obtain ⟨bs, v0, v1, c0, c1, hr3, hG3, hN3, hZ3, sc0, so0, sc1, so1, hnb, sbs, he⟩ := hcut
   obtain ⟨A, mm, cp, rfl⟩ : ∃ A m c, bs = .slice A m c := by
    obtain ⟨A, c, h⟩ := sbs.form
    exact ⟨A, _, c, h⟩
   clear hr2 hN2 hZ2 hG2 hE2 hK
   have h1 := hr3.c1
   have n0 := hN3.c0
   have n1 := hN3.c1
   have n2 := hN3.c2
   have n3 := hN3.c3
   have n4 := hN3.c4
   have n5 := hN3.c5
   have f2 := hN3.fz 2
   have z0 := hZ3.c0
   have z1 := hZ3.c1
   have z2 := hZ3.c2
   have z3 := hZ3.c3
   have z4 := hZ3.c4
   have z5 := hZ3.c5
   have y := hZ3.fz
   have hrg : w.heap.size ≠ g := by omega
   have hgr : g ≠ w.heap.size := by omega
   go_wp2_with fail
   exact bodyPost_ret_by (ret56 rfl (SNode.setSix (hZ3.far hrg _))) rfl (sstep_out hgg hlt hr3 hG3 sc0 so0 sc1 so1 hnb sbs he rfl)
end Go.Proofs.YtojhdfdhfajjjaaDoor
namespace Go.Proofs.YtojhdfdhfajjjaaDoor
open Go.RowKit Pl
set_option maxHeartbeats 1600000 in
set_option maxRecDepth 1000000 in
theorem sstep_two (p : ByteArray) (n : Nat) (hp : p.size ≤ 80) (hB : ∀ m, n < m → SBodyC p m) (w : World) (b : Nat) (ar : ByteArray) (s : RS) (hr : SRd w b p s) (hsn : s.at_ = n) (hn : n < p.size) (har : ar.size ≤ n) (hdep : s.dep ≤ n) (hc : bAt p s.at_ = 61) : SStepP p w b ar s := by
 subst hsn
 have hlt := hr.lt
 have HE := Lib.hid (SStep_eq p ar s hn)
 unfold SStepP
 go_enter Tryd.func48, Tryd.ntmps48
 go_wp2_with fail
 go_cut [5] (fun v5 w1 => SHead w b p ar s v5 w1)
 case first =>
  clear hc
  generalize hW : w.alloc (.cells #[.int .u8 0, .int .i64 0, .int .i64 0, .string { data := #[] }, .slice none 0 0, .string { data := #[] }] 82) = W0
  have hr0 : SRd W0 b p s := by rw [← hW]; exact hr.grown (World.grownBy_alloc w _ none) (by simp)
  have k0 := hr0.c0
  have k1 := hr0.c1
  have ka : ∀ o, SRd (W0.alloc o) b p s := fun o => hr0.grown (World.grownBy_alloc W0 _ none) (by simp)
  have kb : ∀ o o', SRd ((W0.alloc o).alloc o') b p s := fun o o' => (ka o).grown (World.grownBy_alloc _ _ none) (by simp)
  have a0 := fun o => (ka o).c0
  have a1 := fun o => (ka o).c1
  have b0 := fun o o' => (kb o o').c0
  have b1 := fun o o' => (kb o o').c1
  have KB := Lib.hid kb
  clear ka kb
  go_region
  all_goals clear k0 k1 a0 a1 b0 b1
  ·go_wp2_with fail
   go_meet
   exact shead1 hn hW (KB.out _ _)
  ·go_wp2_with fail
   go_meet
   exact shead2 hn hW (KB.out _ _)
 case rest =>
  obtain ⟨g, gb, rfl, hr1, hg1, hN, hgg, hgb, hgn, hZ, hE⟩ := hcut
  clear hr
  have hbg : b ≠ g := by omega
  have hgb' : g ≠ b := by omega
  have h1 := hr1.c1
  have hf1 := hr1.fz 1
  go_upto_region 3 with fail
  generalize hW1 : wc.setCell ⟨b, 1, none⟩ (Value.int .i64 ((s.at_ : Int) + 1)) = W1
  have hr2 : SRd W1 b p ⟨s.at_ + 1, s.bad, s.dep⟩ := by rw [← hW1]; exact hr1.setAt (s.at_ + 1)
  have hN2 : SNode W1 g (bAt p s.at_) s.at_ 0 ByteArray.empty (.slice (some ⟨gb, 0, none⟩) 0 0) ar := by rw [← hW1]; exact hN.far hgb' _
  have hZ2 : SNode W1 w.heap.size 0 0 0 ByteArray.empty (.slice none 0 0) ByteArray.empty := by rw [← hW1]; exact hZ.far (by omega) _
  have hG2 : w.grownBy W1 (some b) := by rw [← hW1]; exact World.grownBy.trans hg1 (grown_set _ _ _ _)
  have hE2 : W1.heap[gb]? = some (.cells #[] 86 (0, 0)) := by rw [← hW1]; exact (Below.heap_setCell wc ⟨b, 1, none⟩ _ gb (by simp; omega)).trans hE
  clear hW1 hr1 hg1 hN hZ hE h1 hf1
  have hK := hN2.c0
  go_upto_block 0 with fail
  go_cut [] (fun w2 => SMid w b p ar s g w2)
  case first =>
   have hq : SStep p ar s = (⟨bAt p s.at_, s.at_, (svar p ar (svar p ar (adv s)).2).2.at_, (svar p ar (adv s)).1 ++ (svar p ar (svar p ar (adv s)).2).1, ar, 0⟩, .nil, .nil, badIf (decide ((svar p ar (svar p ar (adv s)).2).1 = (svar p ar (adv s)).1)) (svar p ar (svar p ar (adv s)).2).2) := by
    rw [HE.out, hc]
    rfl
   have HQ := Lib.hid hq
   clear hq HE
   have e0 : (((bAt p s.at_).toNat : Int) == 43) = false := by rw [hc]; rfl
   have e1 : (((bAt p s.at_).toNat : Int) == 45) = false := by rw [hc]; rfl
   have e2 : (((bAt p s.at_).toNat : Int) == 46) = false := by rw [hc]; rfl
   have e3 : (((bAt p s.at_).toNat : Int) == 126) = false := by rw [hc]; rfl
   have e4 : (((bAt p s.at_).toNat : Int) == 61) = true := by rw [hc]; rfl
   have e5 : (((bAt p s.at_).toNat : Int) == 94) = false := by rw [hc]; rfl
   have e6 : (((bAt p s.at_).toNat : Int) == 33) = false := by rw [hc]; rfl
   have e7 : (((bAt p s.at_).toNat : Int) == 63) = false := by rw [hc]; rfl
   have e8 : (((bAt p s.at_).toNat : Int) == 42) = false := by rw [hc]; rfl
   have e9 : (((bAt p s.at_).toNat : Int) == 123) = false := by rw [hc]; rfl
   clear hc hK
   go_wp2_with fail
   refine (variable_any W1 b p ar (adv s) hr2 (by omega) (by omega)).mono ?_
   rintro e w3 ⟨rfl, hr3, hg3⟩
   have hN3 := hN2.grown hg3 (by simp; omega)
   have n3 := hN3.c3
   have f3 := hN3.fz 3
   have z1 := svar_size p ar (adv s)
   generalize hv1 : svar p ar (adv s) = q1 at *
   obtain ⟨u1, s1⟩ := q1
   simp only at *
   go_wp2_with fail
   generalize hW3 : w3.setCell ⟨g, 3, none⟩ (Value.string u1) = W3
   have hr4 : SRd W3 b p s1 := by rw [← hW3]; exact hr3.far hbg _
   have hN4 : SNode W3 g (bAt p s.at_) s.at_ 0 u1 (.slice (some ⟨gb, 0, none⟩) 0 0) ar := by rw [← hW3]; exact hN3.setVars _
   have hG4 : w.grownBy W3 (some b) := by rw [← hW3]; exact (World.grownBy.trans hG2 hg3).andThen (grown_set w3 g 3 _) (fun j hj => by cases hj; exact .inl (by omega))
   have hZ4 : SNode W3 w.heap.size 0 0 0 ByteArray.empty (.slice none 0 0) ByteArray.empty := by rw [← hW3]; exact (hZ2.grown hg3 (by simp; omega)).far (by omega) _
   have hE4 : W3.heap[gb]? = some (.cells #[] 86 (0, 0)) := by rw [← hW3]; exact far_set (far_of hg3 hE2 (by simp; omega)) _ hgn
   clear hr2 hN2 hZ2 hG2 hE2 hr3 hg3 hN3 n3 f3 hW3
   refine (variable_any W3 b p ar s1 hr4 (by omega) (by omega)).mono ?_
   rintro e w5 ⟨rfl, hr5, hg5⟩
   have z2 := svar_size p ar s1
   generalize hv2 : svar p ar s1 = q2 at *
   obtain ⟨u2, s2⟩ := q2
   simp only at *
   have hN5 := hN4.grown hg5 (by simp; omega)
   have hG5 := World.grownBy.trans hG4 hg5
   have hZ5 := hZ4.grown hg5 (by simp; omega)
   have hE5 := far_of hg5 hE4 (by simp; omega)
   have n3 := hN5.c3
   have f3 := hN5.fz 3
   have h2 := hr5.c2
   have f2 := hr5.fz 2
   clear hr4 hN4 hG4 hZ4 hE4 hg5
   cases hb : s2.bad
   all_goals
    rw [hb] at h2
    have HB := Lib.hid hb
    clear hb
    go_wp2_with fail
    go_meet
    exact smid_two HQ.out _ (by rw [HB.out]; simp [bytes_eqb]) hgg hbg hgn hgb hlt hr5 hG5 hN5 hZ5 hE5
  case rest =>
   obtain ⟨bs, v0, v1, c0, c1, hr3, hG3, hN3, hZ3, sc0, so0, sc1, so1, hnb, sbs, he⟩ := hcut
   obtain ⟨A, mm, cp, rfl⟩ : ∃ A m c, bs = .slice A m c := by
    obtain ⟨A, c, h⟩ := sbs.form
    exact ⟨A, _, c, h⟩
   clear hr2 hN2 hZ2 hG2 hE2 hK
   have h1 := hr3.c1
   have n0 := hN3.c0
   have n1 := hN3.c1
   have n2 := hN3.c2
   have n3 := hN3.c3
   have n4 := hN3.c4
   have n5 := hN3.c5
   have f2 := hN3.fz 2
   have z0 := hZ3.c0
   have z1 := hZ3.c1
   have z2 := hZ3.c2
   have z3 := hZ3.c3
   have z4 := hZ3.c4
   have z5 := hZ3.c5
   have y := hZ3.fz
   have hrg : w.heap.size ≠ g := by omega
   have hgr : g ≠ w.heap.size := by omega
   go_wp2_with fail
   exact bodyPost_ret_by (ret56 rfl (SNode.setSix (hZ3.far hrg _))) rfl (sstep_out hgg hlt hr3 hG3 sc0 so0 sc1 so1 hnb sbs he rfl)
end Go.Proofs.YtojhdfdhfajjjaaDoor
