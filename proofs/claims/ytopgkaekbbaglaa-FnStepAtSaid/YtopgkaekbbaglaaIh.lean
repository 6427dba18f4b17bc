/- The contract of the program's reader of one step: what all steps have in common. -/
import Derived.Test.YtopgkaekbbaglaaIg
namespace Go.Proofs.Ytopgkaekbbaglaa
open Go.RowKit Pl

theorem Made.start_ {w : World} {B : Nat} (h : w.heap.size = B) : Made w (w.alloc (.map #[] 0)) B 0 (.map []) := h ▸ Made.start w
theorem PCells.kept {w w' : World} {ok : Nat → Prop} {t : T} {cs : List Value} {r : Option Nat} (h : PCells w ok t cs) (hg : w.grownBy w' r) (hr : ∀ j, ok j → some j ≠ r) : PCells w' ok t cs := h.keep (fun j hj hlt => hg.block j hlt (hr j hj))
theorem Own.kept {w w' : World} {ok : Nat → Prop} {e : TypeId} {v : Value} {xs : List Value} {r : Option Nat} (h : Own w ok e v xs) (hg : w.grownBy w' r) (hr : ∀ j, ok j → some j ≠ r) : Own w' ok e v xs := h.keep (fun j hj hlt => hg.block j hlt (hr j hj))
theorem Own.form1 {w : World} {ok : Nat → Prop} {e : TypeId} {v : Value} {xs : List Value} (h : Own w ok e v xs) (hp : 0 < xs.length) : ∃ g c, v = .slice (some ⟨g, 0, none⟩) xs.length c := by
  rcases h.row.2 with ⟨hv, hn⟩ | ⟨g, cap, cur, hv, _⟩
  · omega
  · exact ⟨g, cap, hv⟩
theorem info56 : (Try.prog.info? 56).map (fun i => (i.zero, i.size, i.bytes)) = some (some (.slice none 0 0), 1, 24) := by kernel_rfl
/-- the node of a step that is being read -/
def Nd (w : World) (g : Nat) (c n en : Int) (vs ar : ByteArray) (bs : Value) : Prop := w.heap[g]? = some (.cells #[.int .u8 c, .int .i64 n, .int .i64 en, .string vs, .string ar, bs] 60 (0, 0))
section
variable {w w' : World} {g : Nat} {c n en : Int} {vs ar : ByteArray} {bs : Value}
theorem Nd.c0 (h : Nd w g c n en vs ar bs) : w.cell? ⟨g, 0, none⟩ = some (.int .u8 c) := by simp [World.cell?, show w.heap[g]? = _ from h]
theorem Nd.c2 (h : Nd w g c n en vs ar bs) : w.cell? ⟨g, 2, none⟩ = some (.int .i64 en) := by simp [World.cell?, show w.heap[g]? = _ from h]
theorem Nd.c3 (h : Nd w g c n en vs ar bs) : w.cell? ⟨g, 3, none⟩ = some (.string vs) := by simp [World.cell?, show w.heap[g]? = _ from h]
theorem Nd.c5 (h : Nd w g c n en vs ar bs) : w.cell? ⟨g, 5, none⟩ = some bs := by simp [World.cell?, show w.heap[g]? = _ from h]
theorem Nd.fz (h : Nd w g c n en vs ar bs) (i : Nat) : w.frozen? ⟨g, i, none⟩ = false := by simp [World.frozen?, show w.heap[g]? = _ from h]
theorem Nd.lt (h : Nd w g c n en vs ar bs) : g < w.heap.size := (Array.getElem?_eq_some_iff.1 h).1
theorem Nd.grown (h : Nd w g c n en vs ar bs) {r : Option Nat} (hg : w.grownBy w' r) (hr : some g ≠ r) : Nd w' g c n en vs ar bs := (hg.block g h.lt hr).trans h
theorem Nd.far (h : Nd w g c n en vs ar bs) {b i : Nat} (hb : g ≠ b) (v : Value) : Nd (w.setCell ⟨b, i, none⟩ v) g c n en vs ar bs := (Below.heap_setCell w _ v g hb).trans h
theorem Nd.vars (h : Nd w g c n en vs ar bs) (vs' : ByteArray) : Nd (w.setCell ⟨g, 3, none⟩ (.string vs')) g c n en vs' ar bs := by
  have h' : w.heap[g]? = _ := h
  simp [Nd, World.setCell, Array.getElem?_modify, h']
theorem Nd.bodies (h : Nd w g c n en vs ar bs) (bs' : Value) : Nd (w.setCell ⟨g, 5, none⟩ bs') g c n en vs ar bs' := by
  have h' : w.heap[g]? = _ := h
  simp [Nd, World.setCell, Array.getElem?_modify, h']
theorem Nd.en_ (h : Nd w g c n en vs ar bs) (en' : Int) : Nd (w.setCell ⟨g, 2, none⟩ (.int .i64 en')) g c n en' vs ar bs := by
  have h' : w.heap[g]? = _ := h
  simp [Nd, World.setCell, Array.getElem?_modify, h']
end
theorem Rdr.far {w : World} {b n : Nat} {p : ByteArray} (h : Rdr w b p n) {g i : Nat} (hb : b ≠ g) (v : Value) : Rdr (w.setCell ⟨g, i, none⟩ v) b p n := (Below.heap_setCell w _ v b hb).trans h
theorem many_key {c : UInt8} {x : Nat} (h : many c = x) : ((((((DataW.map [] : DataW Unit).put (.int .u8 43) (.lit (.int .i64 1))).put (.int .u8 61) (.lit (.int .i64 2))).put (.int .u8 46) (.lit (.int .i64 1))).put (.int .u8 45) (.lit (.int .i64 1))).put (.int .u8 126) (.lit (.int .i64 1))).atKey (.int .u8 (c.toNat : Int)) (.lit (.int .i64 0)) = .lit (.int .i64 (x : Int)) := by
  rw [← h, ← many_at c]
  exact constMap_at _ [(43, 1), (61, 2), (46, 1), (45, 1), (126, 1)]
theorem brackets_key {c : UInt8} {x : Nat} (h : inBrackets c = x) : (((DataW.map [] : DataW Unit).put (.int .u8 63) (.lit (.int .i64 2))).put (.int .u8 42) (.lit (.int .i64 1))).atKey (.int .u8 (c.toNat : Int)) (.lit (.int .i64 0)) = .lit (.int .i64 (x : Int)) := by
  rw [← h, ← brackets_at c]
  exact constMap_at _ [(63, 2), (42, 1)]
theorem byte_wf (c : UInt8) : (Lit.int .u8 (c.toNat : Int)).wf = true := by
  have := c.toNat_lt
  exact WalkArith.wf_u8 (by omega)

theorem bAt_sub1 {p : ByteArray} {n : Nat} (h : n < p.size) : bAt (sub1 p n) 0 = bAt p n := by
  have e := sub1_data h
  unfold bAt Array.getD
  have hs : 0 < (sub1 p n).data.size := by have := sub1_size h; exact Nat.lt_of_lt_of_eq (by omega) this.symm
  rw [dif_pos hs]
  have h2 : (sub1 p n).data.toList[0]? = some (bAt p n) := by rw [e]; rfl
  rw [Array.getElem?_toList, Array.getElem?_eq_getElem hs] at h2
  simpa [bAt, Array.getD] using h2

set_option maxHeartbeats 800000 in
set_option maxRecDepth 1000000 in
theorem step_one (p : ByteArray) (n : Nat) (hp : p.size ≤ 80) (hm : many (bAt p n) = 1) (hbr : inBrackets (bAt p n) = 0) (hsc' : bAt p n ≠ 123) : StepC p n := by
  intro w b ar sc hr hn har hsc
  have hmm := @run_makeMap Try.prog
  have h0 := hr.c0
  have h1 := hr.c1
  go_enter Try.func57, Try.ntmps57
  go_wp2_with fail
  go_region
  have hblt := hr.lt
  generalize hW : (w.alloc (.cells #[.int .u8 (p[n]'hn).toNat, .int .i64 n, .int .i64 0, .string ⟨#[]⟩, .string ar, .slice none 0 0] 60)).drew = W1
  have hr1 : Rdr W1 b p n := by rw [← hW]; show Rdr (w.alloc _) b p n; exact hr.grown (r := none) (World.grownBy_alloc w _ none) (by simp)
  have hN1 : Nd W1 w.heap.size (p[n]'hn).toNat n 0 ⟨#[]⟩ ar (.slice none 0 0) := by rw [← hW]; show Nd (w.alloc _) _ _ _ _ _ _ _; exact heap_alloc_new w _
  have hG1 : w.grownBy W1 none := by
    rw [← hW]
    have z := World.grownBy_alloc w (.cells #[.int .u8 (p[n]'hn).toNat, .int .i64 n, .int .i64 0, .string ⟨#[]⟩, .string ar, .slice none 0 0] 60) none
    exact ⟨z.os, z.tape, z.output, z.size, z.block⟩
  rw [bAt_get hn] at hN1 ⊢
  generalize hgs : w.heap.size = gs at *
  have hne : gs ≠ b := by omega
  have hN2 := hN1.far (i := 1) hne (.int .i64 ((n : Int) + 1))
  have hr2 : Rdr (W1.setCell ⟨b, 1, none⟩ (.int .i64 ((n : Int) + 1))) b p (n + 1) := hr1.set
  have hG2 := World.grownBy.trans (hG1.but (some b)) (grown_set W1 b 1 (.int .i64 ((n : Int) + 1)))
  have g0 := hr1.c0
  have g1 := hr1.c1
  have gf := hr1.fz 1
  have HW := Lib.hid hW
  have HG := Lib.hid hgs
  have HM := Lib.hid hm
  have HB := Lib.hid hbr
  have HK := Lib.hid hsc'
  clear hW hgs h0 h1 hm hbr hsc'
  generalize hc : bAt p n = c at *
  go_wp2_with (first
    | (refine wpList_insert rfl _ _ _ rfl rfl (Made.start_ ?_) ?_ _ _ rfl rfl ?_ ?_ ?_; simp; decide; decide; decide; intro W4 M4; have q := hN2.grown M4.grown (by simp); have q0 := q.c0)
    | (refine wpList_insert rfl _ _ _ rfl rfl (by assumption) ?_ _ _ rfl rfl ?_ ?_ ?_; decide; decide; decide; intro W4 M4; have q := hN2.grown M4.grown (by simp); have q0 := q.c0)
    | (refine wpList_asked rfl _ _ rfl rfl (by assumption) _ _ rfl (byte_wf c) (many_key HM.out) ?_))
  have hr4 := hr2.grown M4.grown (by simp)
  have hG4 := World.grownBy.trans hG2 (M4.grown.but (some b))
  have HG4 := Lib.hid hG4
  have Q4 := Lib.hid q
  clear hG4 q hG1 hG2 hN1 hN2 hr1 hr2 g0 g1 gf
  refine wp_loop_rounds 2 ?_
  rw [rounds_succ]
  go_wp2_with fail
  refine (letter_any _ b (n + 1) p hr4 (by omega)).mono ?_
  rintro e w5 ⟨rfl, hr5, hg5⟩
  have q5 := Q4.out.grown hg5 (by simp; exact hne)
  have q53 := q5.c3
  have q5f := q5.fz 3
  by_cases hl : isLet p (n + 1) = true
  · rw [hl] at hr5 ⊢
    rw [if_pos rfl] at hr5
    simp only [if_true]
    have hl1 := isLet_lt hl
    have HL := Lib.hid hl
    have HG5 := Lib.hid hg5
    have Q5 := Lib.hid q5
    clear hl hg5 q5
    have hv1 : ((sub1 p (n + 1)).toList.isEmpty) = false := by rw [Lib.toList_data, sub1_data hl1]; rfl
    go_wp2_with fail
    refine (contains_any ar (sub1 p (n + 1)) _ (sub1_size hl1)).mono ?_
    rintro e w6 ⟨rfl, rfl⟩
    rw [show bAt (sub1 p (n + 1)) 0 = bAt p (n + 1) from bAt_sub1 hl1]
    by_cases hh : has ar (bAt p (n + 1)) = true
    · rw [hh]
      have HH := Lib.hid hh
      clear hh
      go_wp2_with fail
      refine (contains_any ⟨#[]⟩ (sub1 p (n + 1)) _ (sub1_size hl1)).mono ?_
      rintro e w6 ⟨rfl, rfl⟩
      rw [show has (⟨#[]⟩ : ByteArray) (bAt (sub1 p (n + 1)) 0) = false from has_empty _]
      have hz := sub1_size hl1
      go_wp2_with fail
      generalize hW7 : w5.setCell ⟨gs, 3, none⟩ _ = W7
      have q7 : Nd W7 gs c.toNat n 0 (sub1 p (n + 1)) ar (.slice none 0 0) := by
        rw [← hW7, show (⟨#[]⟩ : ByteArray) ++ sub1 p (n + 1) = sub1 p (n + 1) from ba_empty_append _]
        exact Q5.out.vars _
      have hr7 : Rdr W7 b p (n + 2) := by rw [← hW7]; exact hr5.far hne.symm _
      have hG7 : w5.grownBy W7 (some gs) := by rw [← hW7]; exact grown_set _ _ _ _
      have Q7 := Lib.hid q7
      have HG7 := Lib.hid hG7
      have hk : ((c.toNat : Int) == 123) = false := by
        rw [beq_eq_false_iff_ne]
        intro h
        exact HK.out ((byte_eq c 123).1 h)
      clear hW7 q7 hG7 hz hv1 q53 q5f q0
      rw [rounds_succ]
      go_wp2_with (first
        | (refine wpList_insert rfl _ _ _ rfl rfl (Made.start_ ?_) ?_ _ _ rfl rfl ?_ ?_ ?_; simp; decide; decide; decide; intro W8 M8; have q := Q7.out.grown M8.grown (by simp); have q0 := q.c0; have qf := q.fz 2; have q2 := q.c2; have z := (hr7.grown M8.grown (by simp)).c1)
        | (refine wpList_insert rfl _ _ _ rfl rfl (by assumption) ?_ _ _ rfl rfl ?_ ?_ ?_; decide; decide; decide; intro W8 M8; have q := Q7.out.grown M8.grown (by simp); have q0 := q.c0; have qf := q.fz 2; have q2 := q.c2; have z := (hr7.grown M8.grown (by simp)).c1)
        | (refine wpList_asked rfl _ _ rfl rfl (by assumption) _ _ rfl (byte_wf c) (brackets_key HB.out) ?_))
      refine wp_loop_rounds 1 ?_
      rw [rounds_succ]
      go_wp2_with fail
      go_ret2
      have hq := q.en_ ((n : Int) + 2)
      have hr9 := (hr7.grown M8.grown (by simp)).far (i := 2) hne.symm (.int .i64 ((n : Int) + 2))
      have hgs := HG.out
      refine ⟨?_, .inr ⟨⟨c, n, n + 2, sub1 p (n + 1), ar, 0⟩, .nil, .nil, n + 2, gs, ?_, by omega, rfl, hr9, ?_⟩⟩
      · have a := World.grownBy.trans HG4.out HG5.out
        have b := a.andThen HG7.out (fun j hj => by cases hj; omega)
        have c' := World.grownBy.trans b (M8.grown.but _)
        exact c'.andThen (grown_set W8 gs 2 _) (fun j hj => by cases hj; omega)
      · have h1 := plain_some (p := p) (ar := ar) (n := n) (sc := sc) hn (vs := sub1 p (n + 1)) (m := n + 2) (by rw [hc]; exact HB.out) (by rw [hc]; exact HK.out) (by rw [hc, HM.out, read_one, if_pos ⟨HL.out, HH.out⟩])
        rw [h1, hc]
      · exact ⟨gs, .slice none 0 0, .slice none 0 0, .slice none 0 0, [], [], [], rfl, by omega, hq, rfl, Own.nil _ _ _, rfl, Own.nil _ _ _, Nat.zero_le _, Own.nil _ _ _, rfl⟩
    · rw [show has ar (bAt p (n + 1)) = false by simpa using hh]
      have HH := Lib.hid hh
      clear hh
      go_wp2_with fail
      go_ret2
      exact ⟨World.grownBy.trans HG4.out HG5.out, .inl ⟨vars_none hn (by rw [hc, HM.out, read_one, if_neg (fun h => HH.out h.2)]), _, rfl⟩⟩
  · rw [show isLet p (n + 1) = false by simpa using hl] at hr5 ⊢
    have HL := Lib.hid hl
    have HG5 := Lib.hid hg5
    clear hl hg5 q5
    simp only [Bool.false_eq_true, if_false]
    go_wp2_with fail
    go_ret2
    exact ⟨World.grownBy.trans HG4.out HG5.out, .inl ⟨vars_none hn (by rw [hc, HM.out, read_one, if_neg (fun h => HL.out h.1)]), _, rfl⟩⟩
end Go.Proofs.Ytopgkaekbbaglaa
