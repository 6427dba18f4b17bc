/- Cells of values, in plain Lean. -/
import Derived.Test.YtmhagppajcidcaaDoorPFb
import Derived.Test.YtmhagppajcidcaaDoorKept
import Derived.Test.YtmhagppajcidcaaDoorQ33
import Derived.Test.YtmhagppajcidcaaDoorQ30
namespace Go.Proofs.YtmhagppajcidcaaDoor.Pr
open Go.RowKit Go.Proofs.YtmhagppajcidcaaDoorW.PrintWords Go.Proofs.YtmhagppajcidcaaDoorW.PrintLast Go.Proofs.YtmhagppajcidcaaDoorW.PrintMore
/-! cells, in plain Lean -/
def cstep (G : List Int → Int) (st : List Int × List Int) (e : S50) : List Int × List Int :=
  if e.f0.toList = [43] then (st.1 ++ [G st.2], st.2 ++ [G st.2])
  else if e.f0.toList = [45] then (st.1, st.2.filter (fun y => y != rd st.1 (e.f1 - 1)))
  else st
def cgo (G : List Int → Int) : List S50 → List Int × List Int → List Int × List Int
  | [], st => st
  | e :: r, st => cgo G r (cstep G st e)
def cst (G : List Int → Int) (o : List S50) : List Int × List Int := cgo G o ([], [])
theorem cgo_snoc (G : List Int → Int) (e : S50) : ∀ (o : List S50) (st : List Int × List Int), cgo G (o ++ [e]) st = cstep G (cgo G o st) e
  | [], st => rfl
  | a :: r, st => by rw [List.cons_append, cgo, cgo, cgo_snoc G e r]
theorem cst_snoc (G : List Int → Int) (o : List S50) (e : S50) : cst G (o ++ [e]) = cstep G (cst G o) e := cgo_snoc G e o _
theorem kloop_snoc (G : List Int → Int) (e : S50) : ∀ (o : List S50) (st : Kst), kloop G (o ++ [e]) st = kstep G (kloop G o st) e
  | [], st => rfl
  | a :: r, st => by rw [List.cons_append, kloop, kloop, kloop_snoc G e r]
theorem cstep_43 {G : List Int → Int} {st : List Int × List Int} {e : S50} (h : e.f0.toList = [43]) : cstep G st e = (st.1 ++ [G st.2], st.2 ++ [G st.2]) := by unfold cstep; rw [if_pos h]
theorem cstep_46 {G : List Int → Int} {st : List Int × List Int} {e : S50} (h : e.f0.toList = [46]) : cstep G st e = st := by unfold cstep; rw [if_neg (by rw [h]; decide), if_neg (by rw [h]; decide)]
theorem cstep_45 {G : List Int → Int} {st : List Int × List Int} {e : S50} (h : e.f0.toList = [45]) : cstep G st e = (st.1, st.2.filter (fun y => y != rd st.1 (e.f1 - 1))) := by unfold cstep; rw [if_neg (by rw [h]; decide), if_pos h]
theorem kstep_43 {G : List Int → Int} {st : Kst} {e : S50} (h : e.f0.toList = [43]) : kstep G st e = ⟨st.xs.set (e.f1 - 1).toNat (G st.L), st.L ++ [G st.L], mx st.many (G st.L + 1)⟩ := by unfold kstep; rw [if_pos h]
theorem kstep_46 {G : List Int → Int} {st : Kst} {e : S50} (h : e.f0.toList = [46]) : kstep G st e = st := by unfold kstep; rw [if_neg (by rw [h]; decide), if_neg (by rw [h]; decide)]
theorem kstep_45 {G : List Int → Int} {st : Kst} {e : S50} (h : e.f0.toList = [45]) : kstep G st e = ⟨st.xs, st.L.filter (fun y => y != rd st.xs (e.f1 - 1)), st.many⟩ := by unfold kstep; rw [if_neg (by rw [h]; decide), if_pos h]
theorem cntGo_snoc (x : Int) : ∀ (L : List Int) (a : Int), cntGo (L ++ [x]) a = mx (cntGo L a) (x + 1)
  | [], a => rfl
  | y :: r, a => by rw [List.cons_append, cntGo, cntGo, cntGo_snoc x r]
theorem rdi_app {xs ys : List Int} {n : Int} (h : n.toNat < xs.length) : rd (xs ++ ys) n = rd xs n := by
  unfold rd
  rw [List.getD_eq_getElem?_getD, List.getD_eq_getElem?_getD, List.getElem?_append_left h]
theorem Good.cells_length {G : List Int → Int} {o : List S50} {m : Nat} {l : List Int} (h : Good o m l) : (cst G o).1.length = m := by
  induction h with
  | nil => rfl
  | make g hs ih => rw [cst_snoc, cstep_43 hs]; simp [ih]
  | use g hs hn ih => rw [cst_snoc, cstep_46 hs]; exact ih
  | kill g hs hn ih => rw [cst_snoc, cstep_45 hs]; exact ih
theorem Good.kloop {G : List Int → Int} {o : List S50} {m : Nat} {l : List Int} (h : Good o m l) : ∀ M, m ≤ M → kloop G o ⟨List.replicate M 0, [], 0⟩ = ⟨(cst G o).1 ++ List.replicate (M - m) 0, (cst G o).2, cntOf (cst G o).1⟩ := by
  induction h with
  | nil => intro M _; rfl
  | @make o m l s g hs ih =>
    intro M hM
    rw [kloop_snoc, ih M (by omega), cst_snoc, kstep_43 hs, cstep_43 hs]
    have hl := g.cells_length (G := G)
    dsimp only
    rw [List.set_append_right _ _ (by omega), hl]
    obtain ⟨d, hd⟩ : ∃ d, M - m = d + 1 := ⟨M - m - 1, by omega⟩
    rw [hd, show M - (m + 1) = d by omega, List.replicate_succ, show ((((m + 1 : Nat) : Int)) - 1).toNat - m = 0 by omega]
    unfold cntOf
    rw [cntGo_snoc]
    simp
  | @use o m l s n g hs hn ih =>
    intro M hM
    rw [kloop_snoc, ih M hM, cst_snoc, kstep_46 hs, cstep_46 hs]
  | @kill o m l s n g hs hn ih =>
    intro M hM
    have hr := g.range _ hn
    have hl := g.cells_length (G := G)
    rw [kloop_snoc, ih M hM, cst_snoc, kstep_45 hs, cstep_45 hs]
    dsimp only
    rw [rdi_app (by omega)]
/-- what is asked of a function that says a cell -/
def Bound (G : List Int → Int) : Prop := ∀ (L : List Int) (k : Nat), (∀ y ∈ L, 0 ≤ y ∧ y < k) → 0 ≤ G L ∧ G L ≤ k
theorem Good.taken {G : List Int → Int} (hG : Bound G) {o : List S50} {m : Nat} {l : List Int} (h : Good o m l) : (∀ y ∈ (cst G o).2, 0 ≤ y ∧ y < m) ∧ (cst G o).2.length ≤ m ∧ ∀ y ∈ (cst G o).1, 0 ≤ y ∧ y < m := by
  induction h with
  | nil => exact ⟨(fun y hy => by cases hy), Nat.le_refl _, (fun y hy => by cases hy)⟩
  | @make o m l s g hs ih =>
    have hb := hG _ m ih.1
    rw [cst_snoc, cstep_43 hs]
    refine ⟨fun y hy => ?_, by simp; omega, fun y hy => ?_⟩
    · rcases List.mem_append.1 hy with hy | hy
      · have := ih.1 y hy; omega
      · have := List.mem_singleton.1 hy; omega
    · rcases List.mem_append.1 hy with hy | hy
      · have := ih.2.2 y hy; omega
      · have := List.mem_singleton.1 hy; omega
  | @use o m l s n g hs hn ih => rw [cst_snoc, cstep_46 hs]; exact ih
  | @kill o m l s n g hs hn ih =>
    rw [cst_snoc, cstep_45 hs]
    exact ⟨fun y hy => ih.1 y (List.mem_filter.1 hy).1, Nat.le_trans (List.length_filter_le _ _) ih.2.1, ih.2.2⟩
theorem free_go (L : List Int) (hl : L.length ≤ 1000000) (hb : ∀ y ∈ L, y ≤ 1000000) : ∀ (n i : Nat), fmeas L i < n → i ≤ 1000001 → Ev (fun k => spec_l8Free.l0 k L (i : Int)) ((ffree L i : Nat) : Int)
  | 0, i, h, _ => by omega
  | n + 1, i, h, hi => by
    refine Ev.step (fun k => spec_l8Free.l0.eq_2 (k := k) ..) (Ev.bind (l7In_ev L i hl) ?_)
    by_cases hin : (i : Int) ∈ L
    · have h1 := filt_lt L i hin
      have h2 := hb _ hin
      simp only [decide_eq_true hin, if_true, wrap_up (show i ≤ 1000000000 by omega)]
      rw [ffree_in hin]
      exact free_go L hl hb n (i + 1) (by unfold fmeas at h ⊢; have : (((i + 1 : Nat) : Int)) = (i : Int) + 1 := rfl; rw [this]; omega) (by omega)
    · simp only [decide_eq_false hin, Bool.false_eq_true, if_false]
      rw [ffree_out hin]
      exact Ev.now _
theorem free_ev (L : List Int) (hl : L.length ≤ 1000000) (hb : ∀ y ∈ L, y ≤ 1000000) : Ev (fun k => spec_l8Free.f k L) (Gf L) := free_go L hl hb _ 0 (Nat.lt_succ_self _) (by omega)
theorem count_go (L : List Int) (hl : L.length ≤ 1000000) (hb : ∀ y ∈ L, -1000000 ≤ y ∧ y ≤ 1000000) : ∀ (d i : Nat) (a : Int), i + d = L.length → Ev (fun k => spec_l8Count.l0 k a L (L.length : Int) (i : Int)) (cntGo (L.drop i) a)
  | 0, i, a, hi => by
    refine Ev.step (fun k => spec_l8Count.l0.eq_2 (k := k) ..) ?_
    simp only [if_neg (show ¬ ((i : Int) < (L.length : Int)) by omega)]
    rw [List.drop_of_length_le (by omega), cntGo]
    exact Ev.now _
  | d + 1, i, a, hi => by
    have hlt : i < L.length := by omega
    have hx := hb _ (List.getElem_mem hlt)
    rw [List.drop_eq_getElem_cons hlt, cntGo]
    refine Ev.step (fun k => spec_l8Count.l0.eq_2 (k := k) ..) ?_
    simp only [if_pos (show ((i : Int) < (L.length : Int)) by omega), if_pos (show (0 : Int) ≤ (i : Int) by omega), rd_at hlt, wrap_up (show i ≤ 1000000000 by omega), wrap_small (n := L[i] + 1) (by omega) (by omega)]
    exact count_go L hl hb d (i + 1) _ (by omega)
theorem count_ev (L : List Int) (hl : L.length ≤ 1000000) (hb : ∀ y ∈ L, -1000000 ≤ y ∧ y ≤ 1000000) : Ev (fun k => spec_l8Count.f k L) (cntOf L) := count_go L hl hb L.length 0 0 (Nat.zero_add _)
theorem cells_go {o : List S50} {m : Nat} {l : List Int} (h : Good o m l) (hl : o.length ≤ 1000000) : ∀ (d i : Nat), i + d = o.length →
    Ev (fun k => spec_l8Cells.l0 k (cst Gf (o.take i)).1 (cst Gf (o.take i)).2 (o.map conv) ((o.map conv).length : Int) (i : Int)) (cst Gf o).1
  | 0, i, hi => by
    refine Ev.step (fun k => spec_l8Cells.l0.eq_2 (k := k) ..) ?_
    simp only [if_neg (show ¬ ((i : Int) < ((o.map conv).length : Int)) by simp; omega)]
    rw [List.take_of_length_le (by omega)]
    exact Ev.now _
  | d + 1, i, hi => by
    obtain ⟨e, m', l', h1, h2, h3, h4, h5⟩ := h.step i (by omega)
    have ih := cells_go h hl d (i + 1) (by omega)
    have hm := h3.made
    have hcl := h3.cells_length (G := Gf)
    have ht := h3.taken (G := Gf) getter_first.bound
    simp only [List.length_take] at hm
    rw [h2, cst_snoc] at ih
    refine Ev.step (fun k => spec_l8Cells.l0.eq_2 (k := k) ..) ?_
    simp only [if_pos (show ((i : Int) < ((o.map conv).length : Int)) by simp; omega), if_pos (show (0 : Int) ≤ (i : Int) by omega), rd59_at h1, wrap_up (show i ≤ 1000000000 by omega), conv_f1]
    rcases h5 with ⟨hs, _⟩ | ⟨hs, hn, _⟩ | ⟨hs, hn, _⟩
    · rw [cstep_43 hs] at ih
      simp only [if_pos (conv_43 hs)]
      refine Ev.bind (free_ev _ (by omega) (fun y hy => by have := ht.1 y hy; omega)) ?_
      simp only [if_pos (show (cst Gf (o.take i)).2.length < 17592186044416 by omega), if_pos (show (cst Gf (o.take i)).1.length < 17592186044416 by omega)]
      exact ih
    · rw [cstep_46 hs] at ih
      simp only [conv_46 hs, show ¬ ((46 : Int) = 43) by decide, show ¬ ((46 : Int) = 45) by decide, if_false]
      exact ih
    · have hr := h3.range _ hn
      rw [cstep_45 hs] at ih
      simp only [conv_45 hs, show ¬ ((45 : Int) = 43) by decide, if_false, if_true, wrap_small (n := e.f1 - 1) (by omega) (by omega), if_pos (show 0 ≤ e.f1 - 1 by omega), if_pos (show e.f1 - 1 < ((cst Gf (o.take i)).1.length : Int) by omega)]
      exact Ev.bind (l7Without_ev _ _ (by omega)) ih
theorem stack_go {o : List S50} {m : Nat} {l : List Int} (h : Good o m l) (hl : o.length ≤ 1000000) : ∀ (d i : Nat), i + d = o.length →
    Ev (fun k => spec_l8Stack.l0 k (cst cntOf (o.take i)).1 (cst cntOf (o.take i)).2 (o.map conv) ((o.map conv).length : Int) (i : Int)) (cst cntOf o).1
  | 0, i, hi => by
    refine Ev.step (fun k => spec_l8Stack.l0.eq_2 (k := k) ..) ?_
    simp only [if_neg (show ¬ ((i : Int) < ((o.map conv).length : Int)) by simp; omega)]
    rw [List.take_of_length_le (by omega)]
    exact Ev.now _
  | d + 1, i, hi => by
    obtain ⟨e, m', l', h1, h2, h3, h4, h5⟩ := h.step i (by omega)
    have ih := stack_go h hl d (i + 1) (by omega)
    have hm := h3.made
    have hcl := h3.cells_length (G := cntOf)
    have ht := h3.taken (G := cntOf) getter_above.bound
    simp only [List.length_take] at hm
    rw [h2, cst_snoc] at ih
    refine Ev.step (fun k => spec_l8Stack.l0.eq_2 (k := k) ..) ?_
    simp only [if_pos (show ((i : Int) < ((o.map conv).length : Int)) by simp; omega), if_pos (show (0 : Int) ≤ (i : Int) by omega), rd59_at h1, wrap_up (show i ≤ 1000000000 by omega), conv_f1]
    rcases h5 with ⟨hs, _⟩ | ⟨hs, hn, _⟩ | ⟨hs, hn, _⟩
    · rw [cstep_43 hs] at ih
      simp only [if_pos (conv_43 hs)]
      refine Ev.bind (count_ev _ (by omega) (fun y hy => by have := ht.1 y hy; omega)) ?_
      simp only [if_pos (show (cst cntOf (o.take i)).2.length < 17592186044416 by omega), if_pos (show (cst cntOf (o.take i)).1.length < 17592186044416 by omega)]
      exact ih
    · rw [cstep_46 hs] at ih
      simp only [conv_46 hs, show ¬ ((46 : Int) = 43) by decide, show ¬ ((46 : Int) = 45) by decide, if_false]
      exact ih
    · have hr := h3.range _ hn
      rw [cstep_45 hs] at ih
      simp only [conv_45 hs, show ¬ ((45 : Int) = 43) by decide, if_false, if_true, wrap_small (n := e.f1 - 1) (by omega) (by omega), if_pos (show 0 ≤ e.f1 - 1 by omega), if_pos (show e.f1 - 1 < ((cst cntOf (o.take i)).1.length : Int) by omega)]
      exact Ev.bind (l7Without_ev _ _ (by omega)) ih
theorem cells_ev {o : List S50} {m : Nat} {l : List Int} (h : Good o m l) (hl : o.length ≤ 1000000) : Ev (fun k => spec_l8Cells.f k (o.map conv)) (cst Gf o).1 := cells_go h hl o.length 0 (Nat.zero_add _)
theorem stack_ev {o : List S50} {m : Nat} {l : List Int} (h : Good o m l) (hl : o.length ≤ 1000000) : Ev (fun k => spec_l8Stack.f k (o.map conv)) (cst cntOf o).1 := stack_go h hl o.length 0 (Nat.zero_add _)
def cellsOf (G : List Int → Int) (a0 : ByteArray) : List Int × Bool := if (toldOf a0).2.2 = true then ((cst G (toldOf a0).1).1, true) else ([], false)
def manyOf (G : List Int → Int) (a0 : ByteArray) : Int := if (toldOf a0).2.2 = true then cntOf (cst G (toldOf a0).1).1 else -1
theorem kept_told (G : List Int → Int) (a0 : ByteArray) : keptOf G a0 = ((cellsOf G a0).1, manyOf G a0, (cellsOf G a0).2) := by
  obtain ⟨m, l, g, hm, hl⟩ := told_good a0
  unfold keptOf cellsOf manyOf
  split
  · rw [hm, Int.toNat_natCast, g.kloop m (Nat.le_refl _), Nat.sub_self]
    simp
  · rfl
theorem kept_f (a0 : ByteArray) (hs : a0.size ≤ 1048576) : impl_kept.f a0 = some ((cellsOf Gf a0).1, manyOf Gf a0, (cellsOf Gf a0).2) := by
  obtain ⟨m, l, g, hm, hl⟩ := told_good a0
  have := g.made
  unfold impl_kept.f
  rw [if_pos ⟨hs, by omega, by omega, hl, by rw [hm]; exact g.values⟩, kept_told]
theorem above_f (a0 : ByteArray) (hs : a0.size ≤ 1048576) : impl_above.f a0 = some ((cellsOf cntOf a0).1, manyOf cntOf a0, (cellsOf cntOf a0).2) := by
  obtain ⟨m, l, g, hm, hl⟩ := told_good a0
  have := g.made
  unfold impl_above.f
  rw [if_pos ⟨hs, by omega, by omega, hl, by rw [hm]; exact g.values⟩, kept_told]
theorem cellsOf_len (G : List Int → Int) (a0 : ByteArray) : (cellsOf G a0).1.length ≤ 600 := by
  obtain ⟨m, l, g, hm, hl⟩ := told_good a0
  have h1 := g.cells_length (G := G)
  have h2 := g.made
  unfold cellsOf
  split
  · dsimp only; omega
  · simp
end Go.Proofs.YtmhagppajcidcaaDoor.Pr
