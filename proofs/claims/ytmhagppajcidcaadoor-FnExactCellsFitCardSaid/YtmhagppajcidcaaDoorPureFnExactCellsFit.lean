/- FnExactCellsFit: the plain law. -/
import Derived.Test.YtmhagppajcidcaaDoorPFb
import Derived.Test.YtmhagppajcidcaaDoorPG
import Derived.Test.YtmhagppajcidcaaDoorQ5
namespace Go.Proofs.YtmhagppajcidcaaDoor.Pr
open Go.RowKit Go.Proofs.YtmhagppajcidcaaDoorW.PrintWords Go.Proofs.YtmhagppajcidcaaDoorW.PrintLast Go.Proofs.YtmhagppajcidcaaDoorW.PrintMore
theorem rd48_set {xs : List S44} {i : Nat} {L : S44} (h : i < xs.length) : rd_T44 (xs.set i L) (i : Int) = L := by
  rw [rd48_at (by rw [List.length_set]; exact h), List.getElem_set_self]
theorem toInt_go (l : List Int) (hl : l.length ≤ 1048576) : ∀ (d i : Nat), i + d = l.length → Ev (fun k => laws_toIntS.l0 k l (l.take i ++ List.replicate d 0) (i : Int)) l
  | 0, i, hi => by
    refine Ev.step (fun k => laws_toIntS.l0.eq_2 (k := k) ..) ?_
    simp only [if_neg (show ¬ ((i : Int) < (l.length : Int)) by omega)]
    rw [List.take_of_length_le (by omega), List.replicate_zero, List.append_nil]
    exact Ev.now _
  | d + 1, i, hi => by
    have hlt : i < l.length := by omega
    have ih := toInt_go l hl d (i + 1) (by omega)
    rw [List.take_succ_eq_append_getElem hlt, List.append_assoc] at ih
    refine Ev.step (fun k => laws_toIntS.l0.eq_2 (k := k) ..) ?_
    simp only [if_pos (show ((i : Int) < (l.length : Int)) by omega), if_pos (show (0 : Int) ≤ (i : Int) by omega), if_pos (show ((i : Int) < ((l.take i ++ List.replicate (d + 1) 0).length : Int)) by simp; omega), rd_at hlt, wrap_up (show i ≤ 1000000000 by omega), Int.toNat_natCast]
    have e : (l.take i ++ List.replicate (d + 1) 0).set i l[i] = l.take i ++ ([l[i]] ++ List.replicate d 0) := by
      rw [List.set_append_right _ _ (by rw [List.length_take]; omega), List.length_take, show i - min i l.length = 0 by omega, List.replicate_succ, List.set_cons_zero]
      rfl
    rw [e]
    exact ih
theorem toInt_ev (l : List Int) (hl : l.length ≤ 1048576) : Ev (fun k => laws_toIntS.f k l) l := by
  unfold laws_toIntS.f
  simp only [if_pos (show 0 ≤ (l.length : Int) by omega), Int.toNat_natCast, if_pos (show l.length ≤ 35184372088832 by omega)]
  have := toInt_go l hl l.length 0 (Nat.zero_add _)
  rw [List.take_zero, List.nil_append] at this
  exact this
theorem num_wf {x : Int} (h : (Lit.int .i64 x).wf = true) : Num x := by
  simp only [Lit.wf, Bool.and_eq_true, decide_eq_true_eq] at h
  exact ⟨h.1, h.2⟩
/-! do cells serve? -/
def Fits (xs : List Int) (lv : List S44) (m : Nat) : Prop := ∀ i : Nat, i < m → 0 ≤ rd xs i ∧ ∀ k : Nat, k < i → ¬ (rd xs i = rd xs k ∧ ((rd_T44 lv k).f2 < 0 ∨ (rd_T44 lv k).f2 > (rd_T44 lv i).f0))
theorem sfIn_iff (xs : List Int) (lv : List S44) (i : Nat) : ∀ (d k : Nat), sfIn xs lv i d k = true ↔ ∀ j : Nat, k ≤ j → j < k + d → ¬ (rd xs i = rd xs j ∧ ((rd_T44 lv j).f2 < 0 ∨ (rd_T44 lv j).f2 > (rd_T44 lv i).f0))
  | 0, k => by
    rw [sfIn]
    exact ⟨fun _ j h1 h2 => by omega, fun _ => rfl⟩
  | d + 1, k => by
    have ih := sfIn_iff xs lv i d (k + 1)
    rw [sfIn]
    split
    · rename_i h
      constructor
      · intro e; cases e
      · intro e; exact absurd h (e k (Nat.le_refl _) (by omega))
    · rename_i h
      rw [ih]
      constructor
      · intro e j h1 h2
        by_cases hj : j = k
        · subst hj; exact h
        · exact e j (by omega) (by omega)
      · intro e j h1 h2
        exact e j (by omega) (by omega)
theorem sfOut_iff (xs : List Int) (lv : List S44) : ∀ (d i : Nat), sfOut xs lv d i = true ↔ ∀ j : Nat, i ≤ j → j < i + d → 0 ≤ rd xs j ∧ ∀ k : Nat, k < j → ¬ (rd xs j = rd xs k ∧ ((rd_T44 lv k).f2 < 0 ∨ (rd_T44 lv k).f2 > (rd_T44 lv j).f0))
  | 0, i => by
    rw [sfOut]
    exact ⟨fun _ j h1 h2 => by omega, fun _ => rfl⟩
  | d + 1, i => by
    have ih := sfOut_iff xs lv d (i + 1)
    have hi := sfIn_iff xs lv i i 0
    rw [sfOut]
    split
    · rename_i h
      constructor
      · intro e; cases e
      · intro e
        have := (e i (Nat.le_refl _) (by omega)).1
        omega
    · rename_i h
      split
      · rename_i h2
        rw [ih]
        constructor
        · intro e j h3 h4
          by_cases hj : j = i
          · subst hj
            exact ⟨by omega, fun k hk => hi.1 h2 k (by omega) (by omega)⟩
          · exact e j (by omega) (by omega)
        · intro e j h3 h4
          exact e j (by omega) (by omega)
      · rename_i h2
        constructor
        · intro e; cases e
        · intro e
          exact absurd (hi.2 (fun j h3 h4 => (e i (Nat.le_refl _) (by omega)).2 j (by omega))) h2
theorem sfOut_fits (xs : List Int) (lv : List S44) (m : Nat) : sfOut xs lv m 0 = true ↔ Fits xs lv m := by
  rw [sfOut_iff]
  exact ⟨fun h i hi => h i (by omega) (by omega), fun h j _ hj => h j (by omega)⟩
/-- what is taken behind events -/
def tkstep (xs : List Int) (L : List Int) (e : S50) : List Int :=
  if e.f0.toList = [43] then L ++ [rd xs (e.f1 - 1)] else if e.f0.toList = [45] then L.filter (fun y => y != rd xs (e.f1 - 1)) else L
def tkgo (xs : List Int) : List S50 → List Int → List Int
  | [], L => L
  | e :: r, L => tkgo xs r (tkstep xs L e)
def chk (xs : List Int) (e : S50) (L : List Int) : Bool := if rd xs (e.f1 - 1) < 0 then false else if e.f0.toList = [43] ∧ rd xs (e.f1 - 1) ∈ L then false else true
theorem fitI_cons (xs : List Int) (e : S50) (r : List S50) (L : List Int) : fitI xs (e :: r) L = (chk xs e L && fitI xs r (tkstep xs L e)) := by
  rw [fitI]
  unfold chk tkstep
  by_cases h0 : rd xs (e.f1 - 1) < 0
  · rw [if_pos h0, if_pos h0]; rfl
  · rw [if_neg h0, if_neg h0]
    by_cases h1 : e.f0.toList = [43]
    · rw [if_pos h1, if_pos h1]
      by_cases h2 : rd xs (e.f1 - 1) ∈ L
      · rw [if_pos h2, if_pos ⟨h1, h2⟩]; rfl
      · rw [if_neg h2, if_neg (fun h => h2 h.2)]; rfl
    · have h2 : ¬ (e.f0.toList = [43] ∧ rd xs (e.f1 - 1) ∈ L) := fun h => h1 h.1
      simp only [if_neg h1, if_neg h2, Bool.true_and]
      split <;> rfl
theorem fitI_snoc (xs : List Int) (e : S50) : ∀ (o : List S50) (L : List Int), fitI xs (o ++ [e]) L = (fitI xs o L && chk xs e (tkgo xs o L))
  | [], L => by
    rw [List.nil_append, fitI_cons, fitI, fitI, tkgo]
    simp
  | a :: r, L => by
    rw [List.cons_append, fitI_cons, fitI_cons, fitI_snoc xs e r, tkgo, Bool.and_assoc]
theorem tkgo_snoc (xs : List Int) (e : S50) : ∀ (o : List S50) (L : List Int), tkgo xs (o ++ [e]) L = tkstep xs (tkgo xs o L) e
  | [], L => rfl
  | a :: r, L => by rw [List.cons_append, tkgo, tkgo, tkgo_snoc xs e r]
/-- the cell of a value -/
def cellAt (xs : List Int) (n : Int) : Int := rd xs (n - 1)
theorem filter_cell {xs : List Int} {n : Int} : ∀ {l : List Int}, (l.map (cellAt xs)).Nodup → n ∈ l → (l.map (cellAt xs)).filter (fun y => y != cellAt xs n) = (l.filter (fun y => y != n)).map (cellAt xs)
  | [], _, h => by cases h
  | a :: r, hd, h => by
    rw [List.map_cons, List.nodup_cons] at hd
    rcases List.mem_cons.1 h with rfl | hn
    · have h1 : ∀ x ∈ r, cellAt xs x ≠ cellAt xs n := fun x hx e => hd.1 (by rw [← e]; exact List.mem_map_of_mem hx)
      have h2 : ∀ x ∈ r, x ≠ n := fun x hx e => h1 x hx (by rw [e])
      rw [List.map_cons, List.filter_cons_of_neg (by simp), List.filter_cons_of_neg (by simp)]
      rw [List.filter_eq_self.2 (fun y hy => by obtain ⟨x, hx, rfl⟩ := List.mem_map.1 hy; simpa using h1 x hx), List.filter_eq_self.2 (fun y hy => by simpa using h2 y hy)]
    · have h1 : cellAt xs a ≠ cellAt xs n := fun e => hd.1 (by rw [e]; exact List.mem_map_of_mem hn)
      have h2 : a ≠ n := fun e => h1 (by rw [e])
      rw [List.map_cons, List.filter_cons_of_pos (by simpa using h1), List.filter_cons_of_pos (by simpa using h2), List.map_cons, filter_cell hd.2 hn]
theorem nodup_filter_map {xs : List Int} {l : List Int} (p : Int → Bool) (h : (l.map (cellAt xs)).Nodup) : ((l.filter p).map (cellAt xs)).Nodup :=
  List.Nodup.sublist (List.filter_sublist.map _) h
theorem Good.fits {o : List S50} {m : Nat} {l : List Int} (h : Good o m l) (xs : List Int) : (fitI xs o [] = true ↔ Fits xs (lvs o) m) ∧ (fitI xs o [] = true → tkgo xs o [] = l.map (cellAt xs) ∧ (l.map (cellAt xs)).Nodup) := by
  induction h with
  | nil => exact ⟨⟨fun _ i hi => by omega, fun _ => rfl⟩, fun _ => ⟨rfl, List.nodup_nil⟩⟩
  | @make o m l s g hs ih =>
    obtain ⟨ih1, ih2⟩ := ih
    have hl := g.lvs_length
    have hk : ((((m + 1 : Nat) : Int)) - 1) = (m : Int) := by omega
    have hc : chk xs ⟨s, ((m + 1 : Nat) : Int)⟩ (tkgo xs o []) = true ↔ 0 ≤ rd xs (m : Int) ∧ ¬ rd xs (m : Int) ∈ tkgo xs o [] := by
      unfold chk
      dsimp only
      rw [hk]
      split
      · simp; omega
      · split
        · rename_i h2; simp [h2.2]
        · rename_i h1 h2
          simp only [true_iff]
          exact ⟨by omega, fun h => h2 ⟨hs, h⟩⟩
    have hold : ∀ j : Nat, j < m → rd_T44 (lvs o ++ [⟨(o.length : Int), (o.length : Int), -1⟩]) (j : Int) = rd_T44 (lvs o) (j : Int) := fun j hj => rd_app (by simp; omega)
    have hnew : rd_T44 (lvs o ++ [⟨(o.length : Int), (o.length : Int), -1⟩]) (m : Int) = ⟨(o.length : Int), (o.length : Int), -1⟩ := rd_get (by rw [List.getElem?_append_right (by omega), hl]; simp)
    have life : ∀ k : Nat, k < m → LvOk o.length l k (rd_T44 (lvs o) (k : Int)) := fun k hk => by
      obtain ⟨L, hL⟩ : ∃ L, (lvs o)[k]? = some L := ⟨_, List.getElem?_eq_getElem (by omega)⟩
      rw [rd_get hL]
      exact g.life k L hL
    rw [fitI_snoc, lvs_snoc, lvset1_43 hs, tkgo_snoc, Bool.and_eq_true, hc]
    refine ⟨⟨fun ⟨h1, h2, h3⟩ i hi => ?_, fun hf => ?_⟩, fun ⟨h1, h2, h3⟩ => ?_⟩
    · obtain ⟨t1, t2⟩ := ih2 h1
      by_cases him : i < m
      · have hh := ih1.1 h1 i him
        refine ⟨hh.1, fun k hk => ?_⟩
        rw [hold k (by omega), hold i him]
        exact hh.2 k hk
      · obtain rfl : i = m := by omega
        refine ⟨h2, fun k hk => ?_⟩
        rw [hold k hk, hnew]
        rintro ⟨e1, e2⟩
        have K := life k hk
        have hd := K.dn
        have hk0 : (rd_T44 (lvs o) (k : Int)).f2 < 0 := by
          rcases e2 with e2 | e2
          · exact e2
          · dsimp only at e2; omega
        apply h3
        rw [t1, e1]
        have := List.mem_map_of_mem (f := cellAt xs) (K.live.1 hk0)
        unfold cellAt at this
        rw [show (((k + 1 : Nat) : Int)) - 1 = (k : Int) by omega] at this
        exact this
    · have hf0 : Fits xs (lvs o) m := fun i hi => by
        have := hf i (by omega)
        refine ⟨this.1, fun k hk => ?_⟩
        have h2 := this.2 k hk
        rwa [hold k (by omega), hold i hi] at h2
      have h1 := ih1.2 hf0
      obtain ⟨t1, t2⟩ := ih2 h1
      have hm := hf m (by omega)
      refine ⟨h1, hm.1, fun hin => ?_⟩
      rw [t1] at hin
      obtain ⟨n, hn, en⟩ := List.mem_map.1 hin
      have hr := g.range n hn
      have h2 := hm.2 (n - 1).toNat (by omega)
      rw [hold _ (by omega)] at h2
      apply h2
      unfold cellAt at en
      refine ⟨by rw [show (((n - 1).toNat : Nat) : Int) = n - 1 by omega]; exact en.symm, .inl ((life _ (by omega)).live.2 ?_)⟩
      rw [show ((((n - 1).toNat + 1 : Nat)) : Int) = n by omega]
      exact hn
    · obtain ⟨t1, t2⟩ := ih2 h1
      unfold tkstep
      rw [if_pos hs, List.map_append, List.map_cons, List.map_nil, t1]
      have ec : cellAt xs ((m + 1 : Nat) : Int) = rd xs (m : Int) := by unfold cellAt; rw [hk]
      rw [ec]
      dsimp only
      rw [hk]
      refine ⟨rfl, ?_⟩
      rw [List.nodup_append]
      refine ⟨t2, by simp, fun a ha b hb => ?_⟩
      have := List.mem_singleton.1 hb
      subst this
      intro e
      subst e
      rw [t1] at h3
      exact h3 ha
  | @use o m l s n g hs hn ih =>
    obtain ⟨ih1, ih2⟩ := ih
    have hr := g.range _ hn
    have hl := g.lvs_length
    have same : ∀ j : Nat, (rd_T44 (lvs (o ++ [⟨s, n⟩])) (j : Int)).f0 = (rd_T44 (lvs o) (j : Int)).f0 ∧ (rd_T44 (lvs (o ++ [⟨s, n⟩])) (j : Int)).f2 = (rd_T44 (lvs o) (j : Int)).f2 := by
      intro j
      rw [lvs_snoc, lvset1_46 hs]
      dsimp only
      by_cases hj : (n - 1).toNat = j
      · have : n - 1 = (j : Int) := by omega
        rw [this, Int.toNat_natCast, rd48_set (by omega)]
        exact ⟨rfl, rfl⟩
      · unfold rd_T44
        rw [Int.toNat_natCast, List.getD_eq_getElem?_getD, List.getElem?_set_ne hj, ← List.getD_eq_getElem?_getD]
        exact ⟨rfl, rfl⟩
    have hc : chk xs ⟨s, n⟩ (tkgo xs o []) = true ↔ 0 ≤ rd xs (n - 1) := by
      unfold chk
      dsimp only
      split
      · simp; omega
      · rw [if_neg (fun h => by rw [hs] at h; exact absurd h.1 (by decide))]
        simp; omega
    have hF : Fits xs (lvs (o ++ [⟨s, n⟩])) m ↔ Fits xs (lvs o) m := by
      unfold Fits
      simp only [same]
    rw [fitI_snoc, tkgo_snoc, Bool.and_eq_true, hc, hF]
    refine ⟨⟨fun h => ih1.1 h.1, fun h => ⟨ih1.2 h, ?_⟩⟩, fun h => ?_⟩
    · have := (h (n - 1).toNat (by omega)).1
      rwa [show (((n - 1).toNat : Nat) : Int) = n - 1 by omega] at this
    · unfold tkstep
      rw [if_neg (by rw [hs]; decide), if_neg (by rw [hs]; decide)]
      exact ih2 h.1
  | @kill o m l s n g hs hn ih =>
    obtain ⟨ih1, ih2⟩ := ih
    have hr := g.range _ hn
    have hl := g.lvs_length
    have life : ∀ k : Nat, k < m → LvOk o.length l k (rd_T44 (lvs o) (k : Int)) := fun k hk => by
      obtain ⟨L, hL⟩ : ∃ L, (lvs o)[k]? = some L := ⟨_, List.getElem?_eq_getElem (by omega)⟩
      rw [rd_get hL]
      exact g.life k L hL
    have same0 : ∀ j : Nat, (rd_T44 (lvs (o ++ [⟨s, n⟩])) (j : Int)).f0 = (rd_T44 (lvs o) (j : Int)).f0 ∧ ((rd_T44 (lvs (o ++ [⟨s, n⟩])) (j : Int)).f2 = (rd_T44 (lvs o) (j : Int)).f2 ∨ (n - 1 = (j : Int) ∧ (rd_T44 (lvs (o ++ [⟨s, n⟩])) (j : Int)).f2 = (o.length : Int))) := by
      intro j
      rw [lvs_snoc, lvset1_45 hs]
      dsimp only
      by_cases hj : (n - 1).toNat = j
      · have : n - 1 = (j : Int) := by omega
        rw [this, Int.toNat_natCast, rd48_set (by omega)]
        exact ⟨rfl, .inr ⟨rfl, rfl⟩⟩
      · unfold rd_T44
        rw [Int.toNat_natCast, List.getD_eq_getElem?_getD, List.getElem?_set_ne hj, ← List.getD_eq_getElem?_getD]
        exact ⟨rfl, .inl rfl⟩
    have hc : chk xs ⟨s, n⟩ (tkgo xs o []) = true ↔ 0 ≤ rd xs (n - 1) := by
      unfold chk
      dsimp only
      split
      · simp; omega
      · rw [if_neg (fun h => by rw [hs] at h; exact absurd h.1 (by decide))]
        simp; omega
    have hcond : ∀ i k : Nat, i < m → k < m → (((rd_T44 (lvs (o ++ [⟨s, n⟩])) (k : Int)).f2 < 0 ∨ (rd_T44 (lvs (o ++ [⟨s, n⟩])) (k : Int)).f2 > (rd_T44 (lvs (o ++ [⟨s, n⟩])) (i : Int)).f0) ↔ ((rd_T44 (lvs o) (k : Int)).f2 < 0 ∨ (rd_T44 (lvs o) (k : Int)).f2 > (rd_T44 (lvs o) (i : Int)).f0)) := by
      intro i k hi hk
      rw [(same0 i).1]
      rcases (same0 k).2 with e | ⟨e1, e2⟩
      · rw [e]
      · rw [e2]
        have Ki := life i hi
        have Kk := life k hk
        have h1 := Ki.used
        have h2 := Ki.un
        have h3 : (rd_T44 (lvs o) (k : Int)).f2 < 0 := Kk.live.2 (by rw [show ((k + 1 : Nat) : Int) = n by omega]; exact hn)
        constructor
        · intro _; exact .inl h3
        · intro _; exact .inr (by omega)
    have hF : Fits xs (lvs (o ++ [⟨s, n⟩])) m ↔ Fits xs (lvs o) m := by
      constructor
      · intro h i hi
        refine ⟨(h i hi).1, fun k hk hh => (h i hi).2 k hk ⟨hh.1, (hcond i k hi (by omega)).2 hh.2⟩⟩
      · intro h i hi
        refine ⟨(h i hi).1, fun k hk hh => (h i hi).2 k hk ⟨hh.1, (hcond i k hi (by omega)).1 hh.2⟩⟩
    rw [fitI_snoc, tkgo_snoc, Bool.and_eq_true, hc, hF]
    refine ⟨⟨fun h => ih1.1 h.1, fun h => ⟨ih1.2 h, ?_⟩⟩, fun h => ?_⟩
    · have := (h (n - 1).toNat (by omega)).1
      rwa [show (((n - 1).toNat : Nat) : Int) = n - 1 by omega] at this
    · obtain ⟨t1, t2⟩ := ih2 h.1
      unfold tkstep
      rw [if_neg (by rw [hs]; decide), if_pos hs, t1]
      exact ⟨filter_cell t2 hn, nodup_filter_map _ t2⟩
theorem fit_same (a0 : ByteArray) (xs : List Int) : sfitOf a0 xs = fitOf a0 xs := by
  obtain ⟨m, l, g, hm, hl⟩ := told_good a0
  have hll := g.lvs_length
  have hf := (g.fits xs).1
  unfold sfitOf fitOf
  rw [hll, hm]
  by_cases h : (toldOf a0).2.2 = true ∧ xs.length = m
  · rw [if_pos h, if_pos ⟨h.1, by omega⟩]
    have h2 := sfOut_fits xs (lvs (toldOf a0).1) m
    rw [Bool.eq_iff_iff, h2, hf]
  · rw [if_neg h, if_neg (fun hh => h ⟨hh.1, by omega⟩)]
end Go.Proofs.YtmhagppajcidcaaDoor.Pr
namespace Go.Proofs.YtmhagppajcidcaaDoor.Pure
open Go.RowKit Go.Proofs.YtmhagppajcidcaaDoorW.PrintWords Go.Proofs.YtmhagppajcidcaaDoorW.PrintLast Go.Proofs.YtmhagppajcidcaaDoorW.PrintMore
open Go.Proofs.YtmhagppajcidcaaDoor.Pr
theorem FnExactCellsFit : laws_FnExactCellsFit.Pure := by
  intro a0 l1 _ _ _ hwf
  by_cases hs : (a0.size : Int) > 1048576
  · exact ⟨0, by unfold laws_FnExactCellsFit.f; rw [if_pos hs]⟩
  · by_cases hl : (l1.length : Int) > 1048576
    · exact ⟨0, by unfold laws_FnExactCellsFit.f; rw [if_neg hs, if_pos hl]⟩
    · obtain ⟨m, l, g, hm, hlen⟩ := told_good a0
      have hgm := g.made
      have hI : impl_CellsFit.f a0 l1 = some (fitOf a0 l1) := by
        unfold impl_CellsFit.f
        rw [if_pos ⟨by omega, fun x hx => num_wf (hwf x hx), by omega, hlen, by rw [hm]; exact g.values⟩]
      have hS : spec_CellsFit.f a0 l1 = some (fitOf a0 l1) := by
        unfold spec_CellsFit.f
        rw [if_pos (by omega), fit_same]
      refine Ev.rounds ?_
      unfold laws_FnExactCellsFit.f
      simp only [if_neg hs, if_neg hl]
      refine Ev.bind (toInt_ev l1 (by omega)) ?_
      simp only [hS, Option.bind_some]
      refine Ev.bind (toInt_ev l1 (by omega)) ?_
      simp only [hI, Option.bind_some, bne_self_eq_false, Bool.false_eq_true, if_false]
      refine Ev.bind (toInt_ev l1 (by omega)) (Ev.bind (eqInt_ev l1 (by omega)) ?_)
      simp only [if_true]
      exact Ev.now _
end Go.Proofs.YtmhagppajcidcaaDoor.Pure
