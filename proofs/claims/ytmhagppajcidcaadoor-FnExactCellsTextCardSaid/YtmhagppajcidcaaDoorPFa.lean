/- Events, in plain Lean: what stands behind each of them, and the lives of the values. -/
import Derived.Test.YtmhagppajcidcaaDoorLives
namespace Go.Proofs.YtmhagppajcidcaaDoor.Pr
open Go.RowKit Go.Proofs.YtmhagppajcidcaaDoorW.PrintWords Go.Proofs.YtmhagppajcidcaaDoorW.PrintLast Go.Proofs.YtmhagppajcidcaaDoorW.PrintMore
/-- events that are told; so many values are made, and these are alive -/
inductive Good : List S50 → Nat → List Int → Prop
  | nil : Good [] 0 []
  | make {o : List S50} {m : Nat} {l : List Int} {s : ByteArray} : Good o m l → s.toList = [43] → Good (o ++ [⟨s, ((m + 1 : Nat) : Int)⟩]) (m + 1) (l ++ [((m + 1 : Nat) : Int)])
  | use {o : List S50} {m : Nat} {l : List Int} {s : ByteArray} {n : Int} : Good o m l → s.toList = [46] → n ∈ l → Good (o ++ [⟨s, n⟩]) m l
  | kill {o : List S50} {m : Nat} {l : List Int} {s : ByteArray} {n : Int} : Good o m l → s.toList = [45] → n ∈ l → Good (o ++ [⟨s, n⟩]) m (l.filter (fun y => y != n))
theorem Good.range {o : List S50} {m : Nat} {l : List Int} (h : Good o m l) : ∀ x ∈ l, 1 ≤ x ∧ x ≤ m := by
  induction h with
  | nil => intro x hx; cases hx
  | make _ _ ih =>
    intro x hx
    rcases List.mem_append.1 hx with hx | hx
    · have := ih x hx; omega
    · have := List.mem_singleton.1 hx; omega
  | use _ _ _ ih => exact ih
  | kill _ _ _ ih => intro x hx; exact ih x (List.mem_filter.1 hx).1
theorem Good.made {o : List S50} {m : Nat} {l : List Int} (h : Good o m l) : m ≤ o.length ∧ l.length ≤ m := by
  induction h with
  | nil => simp
  | make _ _ ih => simp; omega
  | use _ _ _ ih => simp; omega
  | kill _ _ _ ih =>
    refine ⟨by simp; omega, Nat.le_trans (List.length_filter_le _ _) ih.2⟩
theorem Good.sorted {o : List S50} {m : Nat} {l : List Int} (h : Good o m l) : l.Pairwise (· < ·) := by
  induction h with
  | nil => exact .nil
  | make g _ ih =>
    rw [List.pairwise_append]
    refine ⟨ih, by simp, fun a ha b hb => ?_⟩
    have h1 := g.range a ha
    have h2 := List.mem_singleton.1 hb
    omega
  | use _ _ _ ih => exact ih
  | kill _ _ _ ih => exact ih.filter _
theorem Good.values {o : List S50} {m : Nat} {l : List Int} (h : Good o m l) : ∀ e ∈ o, 1 ≤ e.f1 ∧ e.f1 ≤ m := by
  induction h with
  | nil => intro x hx; cases hx
  | make _ _ ih =>
    intro x hx
    rcases List.mem_append.1 hx with hx | hx
    · have := ih x hx; omega
    · have := List.mem_singleton.1 hx; subst this; dsimp only; omega
  | use g _ hn ih =>
    intro x hx
    rcases List.mem_append.1 hx with hx | hx
    · exact ih x hx
    · have := List.mem_singleton.1 hx; subst this; exact g.range _ hn
  | kill g _ hn ih =>
    intro x hx
    rcases List.mem_append.1 hx with hx | hx
    · exact ih x hx
    · have := List.mem_singleton.1 hx; subst this; exact g.range _ hn
theorem Good.signs {o : List S50} {m : Nat} {l : List Int} (h : Good o m l) : ∀ e ∈ o, e.f0.toList = [43] ∨ e.f0.toList = [46] ∨ e.f0.toList = [45] := by
  induction h with
  | nil => intro x hx; cases hx
  | make _ hs ih =>
    intro x hx
    rcases List.mem_append.1 hx with hx | hx
    · exact ih x hx
    · have := List.mem_singleton.1 hx; subst this; exact .inl hs
  | use g hs hn ih =>
    intro x hx
    rcases List.mem_append.1 hx with hx | hx
    · exact ih x hx
    · have := List.mem_singleton.1 hx; subst this; exact .inr (.inl hs)
  | kill g hs hn ih =>
    intro x hx
    rcases List.mem_append.1 hx with hx | hx
    · exact ih x hx
    · have := List.mem_singleton.1 hx; subst this; exact .inr (.inr hs)
/-- what stands at an event -/
def StepAt (o : List S50) (i M : Nat) : Prop := ∃ (e : S50) (m : Nat) (l : List Int), o[i]? = some e ∧ o.take (i + 1) = o.take i ++ [e] ∧ Good (o.take i) m l ∧ m ≤ M ∧
  ((e.f0.toList = [43] ∧ e.f1 = ((m + 1 : Nat) : Int) ∧ m + 1 ≤ M ∧ Good (o.take (i + 1)) (m + 1) (l ++ [((m + 1 : Nat) : Int)])) ∨
   (e.f0.toList = [46] ∧ e.f1 ∈ l ∧ Good (o.take (i + 1)) m l) ∨
   (e.f0.toList = [45] ∧ e.f1 ∈ l ∧ Good (o.take (i + 1)) m (l.filter (fun y => y != e.f1))))
theorem StepAt.snoc {o : List S50} {i M M' : Nat} {e' : S50} (h : StepAt o i M) (hi : i < o.length) (hM : M ≤ M') : StepAt (o ++ [e']) i M' := by
  obtain ⟨e, m, l, h1, h2, h3, h4, h5⟩ := h
  refine ⟨e, m, l, ?_, ?_, ?_, by omega, ?_⟩
  · rw [List.getElem?_append_left hi]; exact h1
  · rw [List.take_append_of_le_length (by omega), List.take_append_of_le_length (by omega)]; exact h2
  · rw [List.take_append_of_le_length (by omega)]; exact h3
  · rw [List.take_append_of_le_length (by omega)]
    rcases h5 with h | h | h
    · exact .inl ⟨h.1, h.2.1, by omega, h.2.2.2⟩
    · exact .inr (.inl h)
    · exact .inr (.inr h)
theorem take_end {o : List S50} {e : S50} : (o ++ [e]).take o.length = o ∧ (o ++ [e]).take (o.length + 1) = o ++ [e] ∧ (o ++ [e])[o.length]? = some e :=
  ⟨by simp, by rw [List.take_of_length_le (by simp)], by simp⟩
theorem Good.step {o : List S50} {m : Nat} {l : List Int} (h : Good o m l) : ∀ i, i < o.length → StepAt o i m := by
  induction h with
  | nil => intro i hi; simp at hi
  | @make o m l s g hs ih =>
    intro i hi
    by_cases h : i < o.length
    · exact (ih i h).snoc h (by omega)
    · simp at hi
      obtain rfl : i = o.length := by omega
      obtain ⟨t1, t2, t3⟩ := @take_end o ⟨s, ((m + 1 : Nat) : Int)⟩
      refine ⟨_, m, l, t3, by rw [t1, t2], by rw [t1]; exact g, by omega, .inl ⟨hs, rfl, by omega, by rw [t2]; exact g.make hs⟩⟩
  | @use o m l s n g hs hn ih =>
    intro i hi
    by_cases h : i < o.length
    · exact (ih i h).snoc h (by omega)
    · simp at hi
      obtain rfl : i = o.length := by omega
      obtain ⟨t1, t2, t3⟩ := @take_end o ⟨s, n⟩
      refine ⟨_, m, l, t3, by rw [t1, t2], by rw [t1]; exact g, by omega, .inr (.inl ⟨hs, hn, by rw [t2]; exact g.use hs hn⟩)⟩
  | @kill o m l s n g hs hn ih =>
    intro i hi
    by_cases h : i < o.length
    · exact (ih i h).snoc h (by omega)
    · simp at hi
      obtain rfl : i = o.length := by omega
      obtain ⟨t1, t2, t3⟩ := @take_end o ⟨s, n⟩
      refine ⟨_, m, l, t3, by rw [t1, t2], by rw [t1]; exact g, by omega, .inr (.inr ⟨hs, hn, by rw [t2]; exact g.kill hs hn⟩)⟩
/-! lives -/
def lvset1 (xs : List S44) (i : Int) (e : S50) : List S44 := if e.f0.toList = [43] then xs ++ [⟨i, i, -1⟩] else lvset xs i e
def lvgo : List S50 → Int → List S44 → List S44
  | [], _, xs => xs
  | e :: r, i, xs => lvgo r (i + 1) (lvset1 xs i e)
def lvs (o : List S50) : List S44 := lvgo o 0 []
theorem lvgo_snoc (e : S50) : ∀ (o : List S50) (i : Int) (xs : List S44), lvgo (o ++ [e]) i xs = lvset1 (lvgo o i xs) (i + o.length) e
  | [], i, xs => by simp [lvgo]
  | a :: r, i, xs => by
    rw [List.cons_append, lvgo, lvgo, lvgo_snoc e r]
    congr 1
    simp only [List.length_cons]; omega
theorem lvs_snoc (o : List S50) (e : S50) : lvs (o ++ [e]) = lvset1 (lvs o) o.length e := by
  unfold lvs
  rw [lvgo_snoc]
  congr 1
  omega
theorem lvloop_snoc (e : S50) : ∀ (o : List S50) (i : Int) (xs : List S44), lvloop (o ++ [e]) i xs = lvset (lvloop o i xs) (i + o.length) e
  | [], i, xs => by simp [lvloop]
  | a :: r, i, xs => by
    rw [List.cons_append, lvloop, lvloop, lvloop_snoc e r]
    congr 1
    simp only [List.length_cons]; omega
theorem lvset_len (xs : List S44) (i : Int) (e : S50) : (lvset xs i e).length = xs.length := by
  unfold lvset
  split
  · simp
  · split
    · simp
    · split
      · simp
      · rfl
theorem lvset_43 {xs : List S44} {i : Int} {e : S50} (h : e.f0.toList = [43]) : lvset xs i e = xs.set (e.f1 - 1).toNat ⟨i, i, -1⟩ := by
  unfold lvset; rw [if_pos h]
theorem lvset_46 {xs : List S44} {i : Int} {e : S50} (h : e.f0.toList = [46]) : lvset xs i e = xs.set (e.f1 - 1).toNat ⟨(rd_T44 xs (e.f1 - 1)).f0, i, (rd_T44 xs (e.f1 - 1)).f2⟩ := by
  unfold lvset; rw [if_neg (by rw [h]; decide), if_pos h]
theorem lvset_45 {xs : List S44} {i : Int} {e : S50} (h : e.f0.toList = [45]) : lvset xs i e = xs.set (e.f1 - 1).toNat ⟨(rd_T44 xs (e.f1 - 1)).f0, (rd_T44 xs (e.f1 - 1)).f1, i⟩ := by
  unfold lvset; rw [if_neg (by rw [h]; decide), if_neg (by rw [h]; decide), if_pos h]
theorem lvset1_43 {xs : List S44} {i : Int} {e : S50} (h : e.f0.toList = [43]) : lvset1 xs i e = xs ++ [⟨i, i, -1⟩] := by
  unfold lvset1; rw [if_pos h]
theorem lvset1_46 {xs : List S44} {i : Int} {e : S50} (h : e.f0.toList = [46]) : lvset1 xs i e = xs.set (e.f1 - 1).toNat ⟨(rd_T44 xs (e.f1 - 1)).f0, i, (rd_T44 xs (e.f1 - 1)).f2⟩ := by
  unfold lvset1; rw [if_neg (by rw [h]; decide), lvset_46 h]
theorem lvset1_45 {xs : List S44} {i : Int} {e : S50} (h : e.f0.toList = [45]) : lvset1 xs i e = xs.set (e.f1 - 1).toNat ⟨(rd_T44 xs (e.f1 - 1)).f0, (rd_T44 xs (e.f1 - 1)).f1, i⟩ := by
  unfold lvset1; rw [if_neg (by rw [h]; decide), lvset_45 h]
theorem Good.lvs_length {o : List S50} {m : Nat} {l : List Int} (h : Good o m l) : (lvs o).length = m := by
  induction h with
  | nil => rfl
  | make g hs ih => rw [lvs_snoc, lvset1_43 hs]; simp [ih]
  | use g hs hn ih => rw [lvs_snoc, lvset1_46 hs]; simp [ih]
  | kill g hs hn ih => rw [lvs_snoc, lvset1_45 hs]; simp [ih]
theorem rd_app {xs ys : List S44} {n : Int} (h : n.toNat < xs.length) : rd_T44 (xs ++ ys) n = rd_T44 xs n := by
  unfold rd_T44
  rw [List.getD_eq_getElem?_getD, List.getD_eq_getElem?_getD, List.getElem?_append_left h]
theorem Good.lvloop {o : List S50} {m : Nat} {l : List Int} (h : Good o m l) : ∀ M, m ≤ M → lvloop o 0 (List.replicate M z44) = lvs o ++ List.replicate (M - m) z44 := by
  induction h with
  | nil => intro M _; rfl
  | @make o m l s g hs ih =>
    intro M hM
    rw [lvloop_snoc, ih M (by omega), lvs_snoc, lvset_43 hs, lvset1_43 hs]
    have hl := g.lvs_length
    rw [List.set_append_right _ _ (by dsimp only; omega), hl]
    obtain ⟨d, hd⟩ : ∃ d, M - m = d + 1 := ⟨M - m - 1, by omega⟩
    rw [hd, show M - (m + 1) = d by omega, List.replicate_succ, show ((((m + 1 : Nat) : Int)) - 1).toNat - m = 0 by omega]
    simp
  | @use o m l s n g hs hn ih =>
    intro M hM
    have hr := g.range _ hn
    have hl := g.lvs_length
    rw [lvloop_snoc, ih M (by omega), lvs_snoc, lvset_46 hs, lvset1_46 hs]
    dsimp only
    rw [List.set_append_left _ _ (by omega), rd_app (by omega)]
    simp
  | @kill o m l s n g hs hn ih =>
    intro M hM
    have hr := g.range _ hn
    have hl := g.lvs_length
    rw [lvloop_snoc, ih M (by omega), lvs_snoc, lvset_45 hs, lvset1_45 hs]
    dsimp only
    rw [List.set_append_left _ _ (by omega), rd_app (by omega)]
    simp
/-- a life in a list of told events -/
structure LvOk (n : Nat) (l : List Int) (j : Nat) (L : S44) : Prop where
  born : 0 ≤ L.f0
  used : L.f0 ≤ L.f1
  un : L.f1 < n
  dn : L.f2 < n
  d1 : -1 ≤ L.f2
  ud : 0 ≤ L.f2 → L.f1 < L.f2
  live : L.f2 < 0 ↔ ((j + 1 : Nat) : Int) ∈ l
theorem rd_get {xs : List S44} {j : Nat} {L : S44} (h : xs[j]? = some L) : rd_T44 xs (j : Int) = L := by
  unfold rd_T44
  rw [List.getD_eq_getElem?_getD, Int.toNat_natCast, h]
  rfl
theorem Good.life {o : List S50} {m : Nat} {l : List Int} (h : Good o m l) : ∀ (j : Nat) (L : S44), (lvs o)[j]? = some L → LvOk o.length l j L := by
  induction h with
  | nil => intro j L h; simp [lvs, lvgo] at h
  | @make o m l s g hs ih =>
    intro j L h
    have hl := g.lvs_length
    rw [lvs_snoc, lvset1_43 hs] at h
    by_cases hj : j < m
    · rw [List.getElem?_append_left (by omega)] at h
      obtain ⟨a, b, c, d, e, f, k⟩ := ih j L h
      refine ⟨a, b, by simp; omega, by simp; omega, e, f, k.trans ?_⟩
      simp only [List.mem_append, List.mem_singleton]
      constructor
      · exact .inl
      · rintro (h | h)
        · exact h
        · omega
    · have : j < m + 1 := by
        have := (List.getElem?_eq_some_iff.1 h).1
        simpa [hl] using this
      obtain rfl : j = m := by omega
      rw [List.getElem?_append_right (by omega), hl] at h
      simp at h
      subst h
      exact ⟨by simp, by simp, by simp; omega, by simp; omega, by simp, by simp, by simp⟩
  | @use o m l s n g hs hn ih =>
    intro j L h
    have hr := g.range _ hn
    have hl := g.lvs_length
    rw [lvs_snoc, lvset1_46 hs] at h
    dsimp only at h
    rw [List.getElem?_set] at h
    by_cases hj : (n - 1).toNat = j
    · rw [if_pos hj, if_pos (by omega)] at h
      injection h with h
      obtain ⟨L0, h0⟩ : ∃ L0, (lvs o)[j]? = some L0 := ⟨_, List.getElem?_eq_getElem (by omega)⟩
      obtain ⟨a, b, c, d, e, f, k⟩ := ih j L0 h0
      rw [show n - 1 = (j : Int) by omega, rd_get h0] at h
      have hneg : L0.f2 < 0 := k.2 (by rw [show ((j + 1 : Nat) : Int) = n by omega]; exact hn)
      subst h
      exact ⟨a, by dsimp only; omega, by simp; omega, by simp; omega, e, by dsimp only; omega, k⟩
    · rw [if_neg hj] at h
      obtain ⟨a, b, c, d, e, f, k⟩ := ih j L h
      exact ⟨a, b, by simp; omega, by simp; omega, e, f, k⟩
  | @kill o m l s n g hs hn ih =>
    intro j L h
    have hr := g.range _ hn
    have hl := g.lvs_length
    rw [lvs_snoc, lvset1_45 hs] at h
    dsimp only at h
    rw [List.getElem?_set] at h
    by_cases hj : (n - 1).toNat = j
    · rw [if_pos hj, if_pos (by omega)] at h
      injection h with h
      obtain ⟨L0, h0⟩ : ∃ L0, (lvs o)[j]? = some L0 := ⟨_, List.getElem?_eq_getElem (by omega)⟩
      obtain ⟨a, b, c, d, e, f, k⟩ := ih j L0 h0
      rw [show n - 1 = (j : Int) by omega, rd_get h0] at h
      have hneg : L0.f2 < 0 := k.2 (by rw [show ((j + 1 : Nat) : Int) = n by omega]; exact hn)
      subst h
      refine ⟨a, b, by simp; omega, by simp; omega, by dsimp only; omega, by dsimp only; omega, ?_⟩
      dsimp only
      constructor
      · intro; omega
      · intro hm
        have := (List.mem_filter.1 hm).2
        simp only [bne_iff_ne] at this
        omega
    · rw [if_neg hj] at h
      obtain ⟨a, b, c, d, e, f, k⟩ := ih j L h
      refine ⟨a, b, by simp; omega, by simp; omega, e, f, k.trans ?_⟩
      rw [List.mem_filter]
      constructor
      · intro h; exact ⟨h, by simp only [bne_iff_ne]; omega⟩
      · exact fun h => h.1
/-! what is alive behind an event -/
def alv : List S44 → Int → Int → List Int
  | [], _, _ => []
  | L :: r, i, k => if L.f0 ≤ k ∧ (L.f2 < 0 ∨ k < L.f2) then (i + 1) :: alv r (i + 1) k else alv r (i + 1) k
theorem alv_append (k : Int) (ys : List S44) : ∀ (xs : List S44) (i : Int), alv (xs ++ ys) i k = alv xs i k ++ alv ys (i + xs.length) k
  | [], i => by simp [alv]
  | L :: r, i => by
    rw [List.cons_append, alv, alv, alv_append k ys r]
    have : i + 1 + (r.length : Int) = i + ((L :: r).length : Int) := by simp only [List.length_cons]; omega
    rw [this]
    split <;> rfl
theorem alv_set (k : Int) (L' : S44) : ∀ (xs : List S44) (i : Int) (j : Nat) (L : S44), xs[j]? = some L → ((L'.f0 ≤ k ∧ (L'.f2 < 0 ∨ k < L'.f2)) ↔ (L.f0 ≤ k ∧ (L.f2 < 0 ∨ k < L.f2))) → alv (xs.set j L') i k = alv xs i k
  | [], i, j, L, h, _ => by simp at h
  | a :: r, i, 0, L, h, hc => by
    simp at h
    subst h
    rw [List.set_cons_zero, alv, alv]
    by_cases hh : L'.f0 ≤ k ∧ (L'.f2 < 0 ∨ k < L'.f2)
    · rw [if_pos hh, if_pos (hc.1 hh)]
    · rw [if_neg hh, if_neg (fun h => hh (hc.2 h))]
  | a :: r, i, j + 1, L, h, hc => by
    rw [List.set_cons_succ, alv, alv, alv_set k L' r (i + 1) j L (by simpa using h) hc]
theorem mem_alv (k : Int) : ∀ (xs : List S44) (i n : Int), n ∈ alv xs i k ↔ ∃ (j : Nat) (L : S44), xs[j]? = some L ∧ n = i + j + 1 ∧ L.f0 ≤ k ∧ (L.f2 < 0 ∨ k < L.f2)
  | [], i, n => by simp [alv]
  | a :: r, i, n => by
    have ih := mem_alv k r (i + 1) n
    have key : (∃ (j : Nat) (L : S44), (a :: r)[j]? = some L ∧ n = i + j + 1 ∧ L.f0 ≤ k ∧ (L.f2 < 0 ∨ k < L.f2)) ↔ ((n = i + 1 ∧ a.f0 ≤ k ∧ (a.f2 < 0 ∨ k < a.f2)) ∨ n ∈ alv r (i + 1) k) := by
      rw [ih]
      constructor
      · rintro ⟨j, L, h1, h2, h3⟩
        cases j with
        | zero => simp at h1; subst h1; exact .inl ⟨by omega, h3⟩
        | succ j => exact .inr ⟨j, L, by simpa using h1, by omega, h3⟩
      · rintro (⟨h1, h2⟩ | ⟨j, L, h1, h2, h3⟩)
        · exact ⟨0, a, by simp, by omega, h2⟩
        · exact ⟨j + 1, L, by simpa using h1, by omega, h3⟩
    rw [key, alv]
    by_cases hh : a.f0 ≤ k ∧ (a.f2 < 0 ∨ k < a.f2)
    · rw [if_pos hh, List.mem_cons]
      simp [hh]
    · rw [if_neg hh]
      simp [hh]
theorem alv_gt (k : Int) (xs : List S44) (i n : Int) (h : n ∈ alv xs i k) : i < n := by
  obtain ⟨j, L, _, h2, _⟩ := (mem_alv k xs i n).1 h
  omega
theorem alv_sorted (k : Int) : ∀ (xs : List S44) (i : Int), (alv xs i k).Pairwise (· < ·)
  | [], i => .nil
  | a :: r, i => by
    rw [alv]
    split
    · exact .cons (fun n hn => alv_gt k r (i + 1) n hn) (alv_sorted k r (i + 1))
    · exact alv_sorted k r (i + 1)
theorem alv_length (k : Int) : ∀ (xs : List S44) (i : Int), (alv xs i k).length ≤ xs.length
  | [], i => by simp [alv]
  | a :: r, i => by
    rw [alv]
    have := alv_length k r (i + 1)
    split <;> simp <;> omega
theorem sorted_ext : ∀ (a b : List Int), a.Pairwise (· < ·) → b.Pairwise (· < ·) → (∀ x, x ∈ a ↔ x ∈ b) → a = b
  | [], [], _, _, _ => rfl
  | [], y :: b, _, _, h => absurd ((h y).2 (by simp)) (by simp)
  | x :: a, [], _, _, h => absurd ((h x).1 (by simp)) (by simp)
  | x :: a, y :: b, ha, hb, h => by
    cases ha with
    | cons ha1 ha2 => cases hb with
      | cons hb1 hb2 =>
        have hxy : x = y := by
          have h1 := (h x).1 (by simp)
          have h2 := (h y).2 (by simp)
          rcases List.mem_cons.1 h1 with h1 | h1
          · exact h1
          · rcases List.mem_cons.1 h2 with h2 | h2
            · exact h2.symm
            · have := ha1 _ h2; have := hb1 _ h1; omega
        subst hxy
        rw [sorted_ext a b ha2 hb2 (fun z => ?_)]
        have hz := h z
        simp only [List.mem_cons] at hz
        constructor
        · intro hza
          rcases hz.1 (.inr hza) with e | e
          · have := ha1 _ hza; omega
          · exact e
        · intro hzb
          rcases hz.2 (.inr hzb) with e | e
          · have := hb1 _ hzb; omega
          · exact e
theorem Good.alv_end {o : List S50} {m : Nat} {l : List Int} (h : Good o m l) : alv (lvs o) 0 ((o.length : Int) - 1) = l := by
  refine sorted_ext _ _ (alv_sorted _ _ _) h.sorted fun x => ?_
  rw [mem_alv]
  constructor
  · rintro ⟨j, L, h1, rfl, h3, h4⟩
    have K := h.life j L h1
    have h2 := K.live.1 (by have := K.dn; omega)
    rw [show (0 : Int) + j + 1 = ((j + 1 : Nat) : Int) by omega]
    exact h2
  · intro hx
    have hr := h.range x hx
    have hl := h.lvs_length
    obtain ⟨L, hL⟩ : ∃ L, (lvs o)[(x - 1).toNat]? = some L := ⟨_, List.getElem?_eq_getElem (by omega)⟩
    have K := h.life _ L hL
    have h2 := K.live.2 (by rw [show (((x - 1).toNat + 1 : Nat) : Int) = x by omega]; exact hx)
    exact ⟨_, L, hL, by omega, by have := K.un; have := K.used; omega, .inl h2⟩
theorem Good.alv_snoc {o : List S50} {m m' : Nat} {l l' : List Int} {e : S50} (h : Good o m l) (k : Int) (hk : k < o.length) (h' : Good (o ++ [e]) m' l') : alv (lvs (o ++ [e])) 0 k = alv (lvs o) 0 k := by
  have hst := h'.step o.length (by simp)
  obtain ⟨e', m1, l1, h1, h2, h3, h4, h5⟩ := hst
  obtain ⟨t1, t2, t3⟩ := @take_end o e
  rw [t3] at h1
  injection h1 with h1
  subst h1
  rw [t1] at h3
  have hl := h.lvs_length
  have hl1 := h3.lvs_length
  obtain rfl : m1 = m := by omega
  rw [lvs_snoc]
  rcases h5 with ⟨hs, _, _, _⟩ | ⟨hs, hn, _⟩ | ⟨hs, hn, _⟩
  · rw [lvset1_43 hs, alv_append]
    simp only [alv]
    rw [if_neg (by omega), List.append_nil]
  · have hr := h3.range _ hn
    rw [lvset1_46 hs]
    obtain ⟨L, hL⟩ : ∃ L, (lvs o)[(e.f1 - 1).toNat]? = some L := ⟨_, List.getElem?_eq_getElem (by omega)⟩
    have hrd := rd_get hL
    rw [show (((e.f1 - 1).toNat : Nat) : Int) = e.f1 - 1 by omega] at hrd
    rw [hrd]
    exact alv_set k _ _ _ _ L hL Iff.rfl
  · have hr := h3.range _ hn
    rw [lvset1_45 hs]
    obtain ⟨L, hL⟩ : ∃ L, (lvs o)[(e.f1 - 1).toNat]? = some L := ⟨_, List.getElem?_eq_getElem (by omega)⟩
    have hrd := rd_get hL
    rw [show (((e.f1 - 1).toNat : Nat) : Int) = e.f1 - 1 by omega] at hrd
    rw [hrd]
    have K := h3.life _ L hL
    have h2 := K.live.2 (by rw [show (((e.f1 - 1).toNat + 1 : Nat) : Int) = e.f1 by omega]; exact hn)
    exact alv_set k _ _ _ _ L hL ⟨fun h => ⟨h.1, .inl h2⟩, fun h => ⟨h.1, .inr hk⟩⟩
theorem Good.alv_take {o : List S50} {m : Nat} {l : List Int} (h : Good o m l) : ∀ (i : Nat) (m' : Nat) (l' : List Int), i ≤ o.length → Good (o.take i) m' l' → alv (lvs o) 0 ((i : Int) - 1) = l' := by
  have gen : ∀ (o : List S50) (m : Nat) (l : List Int), Good o m l → (∀ (i : Nat) (m' : Nat) (l' : List Int), i < o.length → Good (o.take i) m' l' → alv (lvs o) 0 ((i : Int) - 1) = l') → ∀ (i : Nat) (m' : Nat) (l' : List Int), i ≤ o.length → Good (o.take i) m' l' → alv (lvs o) 0 ((i : Int) - 1) = l' := by
    intro o m l g hlt i m' l' hi g'
    by_cases h : i < o.length
    · exact hlt i m' l' h g'
    · obtain rfl : i = o.length := by omega
      rw [List.take_length] at g'
      exact g'.alv_end
  have main : ∀ (o : List S50) (m : Nat) (l : List Int) (e : S50) (m2 : Nat) (l2 : List Int), Good o m l → Good (o ++ [e]) m2 l2 → (∀ (i : Nat) (m' : Nat) (l' : List Int), i ≤ o.length → Good (o.take i) m' l' → alv (lvs o) 0 ((i : Int) - 1) = l') → ∀ (i : Nat) (m' : Nat) (l' : List Int), i < (o ++ [e]).length → Good ((o ++ [e]).take i) m' l' → alv (lvs (o ++ [e])) 0 ((i : Int) - 1) = l' := by
    intro o m l e m2 l2 g g2 ih i m' l' hi g'
    simp at hi
    rw [List.take_append_of_le_length (by omega)] at g'
    rw [g.alv_snoc _ (by omega) g2]
    exact ih i m' l' (by omega) g'
  induction h with
  | nil => exact gen _ _ _ .nil (by intro i m' l' hi; simp at hi)
  | make g hs ih => exact gen _ _ _ (g.make hs) (main _ _ _ _ _ _ g (g.make hs) ih)
  | use g hs hn ih => exact gen _ _ _ (g.use hs hn) (main _ _ _ _ _ _ g (g.use hs hn) ih)
  | kill g hs hn ih => exact gen _ _ _ (g.kill hs hn) (main _ _ _ _ _ _ g (g.kill hs hn) ih)
theorem Good.uniq {o : List S50} {m m' : Nat} {l l' : List Int} (h : Good o m l) (h' : Good o m' l') : m = m' ∧ l = l' :=
  ⟨h.lvs_length.symm.trans h'.lvs_length, h.alv_end.symm.trans h'.alv_end⟩
end Go.Proofs.YtmhagppajcidcaaDoor.Pr
