/- MFnEarlye: texts of this proof, joined. -/
import Derived.Test.YtndjbnkmhpbnpaaGreatDoorCa
import Derived.Test.YtndjbnkmhpbnpaaGreatDoorCb
import Derived.Test.YtndjbnkmhpbnpaaGreatDoorCc
import Derived.Test.YtndjbnkmhpbnpaaGreatDoorCd
import Derived.Test.YtndjbnkmhpbnpaaGreatDoorCe
import Derived.Test.YtndjbnkmhpbnpaaGreatDoorCf
import Derived.Test.YtndjbnkmhpbnpaaGreatDoorCg
import Derived.Test.YtndjbnkmhpbnpaaGreatDoorCh
import Derived.Test.YtndjbnkmhpbnpaaGreatDoorCi
import Derived.Test.YtndjbnkmhpbnpaaGreatDoorCj
import Derived.Test.YtndjbnkmhpbnpaaGreatDoorCk
import Derived.Test.YtndjbnkmhpbnpaaGreatDoorCl
import Derived.Test.YtndjbnkmhpbnpaaGreatDoorMFnEarlya
import Derived.Test.YtndjbnkmhpbnpaaGreatDoorMFnEarlyb
import Derived.Test.YtndjbnkmhpbnpaaGreatDoorMFnEarlyc
import Derived.Test.YtndjbnkmhpbnpaaGreatDoorMFnEarlyd
namespace Go.Proofs.YtndjbnkmhpbnpaaGreatDoor.Pr
open Go.RowKit Go.Proofs.YtndjbnkmhpbnpaaGreatDoorW.PrintWords Go.Proofs.YtndjbnkmhpbnpaaGreatDoorW.PrintLast Go.Proofs.YtndjbnkmhpbnpaaGreatDoorW.PrintMore
set_option linter.unusedVariables false
set_option linter.unusedSimpArgs false
theorem early_append (xs : List S31) (b : List S55) : ∀ (a : List S55) (i : Int), early xs (a ++ b) i = early xs a i ++ early xs b (i + a.length)
 | [], i => by simp [early]
 | e :: r, i => by
  rw [List.cons_append, early, early, early_append xs b r, List.append_assoc]
  have : i + 1 + (r.length : Int) = i + ((e :: r).length : Int) := by simp only [List.length_cons]; omega
  rw [this]
theorem early_take {xs : List S31} {o : List S55} {i : Nat} {e : S55} (hi : i < o.length) (h : o.take (i + 1) = o.take i ++ [e]) : early xs (o.take (i + 1)) 0 = early xs (o.take i) 0 ++ early1 xs e (i : Int) := by
 rw [h, early_append, early, early, List.append_nil]
 congr 2
 rw [List.length_take]
 omega
def Want (xs : List S31) (i : Nat) (n : Int) : Bool := decide ((rd_T31 xs (n - 1)).f2 < 0 ∨ (i : Int) ≤ (rd_T31 xs (n - 1)).f1)
theorem Good.at_used {o : List S55} {m : Nat} {l : List Int} (g : Good o m l) {n : Int} (h1 : 1 ≤ n) (h2 : n ≤ m) {i : Nat} {e : S55} (he : o[i]? = some e) (hu : (rd_T31 (lvs o) (n - 1)).f1 = (i : Int)) : e.f1 = n ∧ e.f0.toList ≠ [45] := by
 obtain ⟨j, hj, _, S, _⟩ := g.lv_at h1 h2
 obtain ⟨u, hu1, eu, hu2, hu3, hu4⟩ := S.used
 have : u = i := by omega
 subst this
 rw [he] at hu2
 injection hu2 with hu2
 subst hu2
 exact ⟨by rw [hu4, hj], hu3⟩
theorem want_next {o : List S55} {m : Nat} {l : List Int} (g : Good o m l) {n : Int} (h1 : 1 ≤ n) (h2 : n ≤ m) {i : Nat} {e : S55} (he : o[i]? = some e) (hne : e.f1 ≠ n ∨ e.f0.toList = [45]) : Want (lvs o) i n = Want (lvs o) (i + 1) n := by
 have hk : (rd_T31 (lvs o) (n - 1)).f1 ≠ (i : Int) := fun hu => by
  obtain ⟨a, b⟩ := g.at_used h1 h2 he hu
  rcases hne with h | h
  ·exact h a
  ·exact b h
 unfold Want
 apply decide_eq_decide.2
 constructor
 ·rintro (h | h)
  ·exact .inl h
  ·exact .inr (by omega)
 ·rintro (h | h)
  ·exact .inl h
  ·exact .inr (by omega)
theorem Good.early {o : List S55} {m : Nat} {l : List Int} (g : Good o m l) : ∀ (i : Nat) (m' : Nat) (l' : List Int), i ≤ o.length → Good (o.take i) m' l' → Good (Pr.early (lvs o) (o.take i) 0) m' (l'.filter (Want (lvs o) i))
 | 0, m', l', hi, g' => by
  rw [List.take_zero] at g' ⊢
  obtain ⟨rfl, rfl⟩ := g'.uniq .nil
  exact .nil
 | i + 1, m', l', hi, g' => by
  obtain ⟨e, m1, l1, h1, h2, h3, h4, h5⟩ := g.step i (by omega)
  have ih := Good.early g i m1 l1 (by omega) h3
  have hr := h3.range
  rw [early_take (by omega) h2]
  rcases h5 with ⟨hs, hn, hm1, g2⟩ | ⟨hs, hn, g2⟩ | ⟨hs, hn, g2⟩
  ·obtain ⟨rfl, rfl⟩ := g'.uniq g2
   obtain ⟨j, hj, _, S, K⟩ := g.lv_at (n := ((m1 + 1 : Nat) : Int)) (by omega) (by omega)
   have hlast := S.last i e h1 (by rw [hn, hj]) (by rw [hs]; decide)
   have hsame : l1.filter (Want (lvs o) i) = l1.filter (Want (lvs o) (i + 1)) := List.filter_congr (fun n hn2 => want_next g (hr n hn2).1 (by have := hr n hn2; omega) h1 (.inl (by have := (hr n hn2).2; omega)))
   rw [hsame] at ih
   have he' : (⟨e.f0, ((m1 + 1 : Nat) : Int)⟩ : S55) = e := by rw [← hn]
   have ge := ih.make (s := e.f0) hs
   rw [he'] at ge
   rw [List.filter_append]
   unfold early1
   rw [if_neg (by rw [hs]; decide), hn]
   by_cases hC : (rd_T31 (lvs o) (((m1 + 1 : Nat) : Int) - 1)).f1 = (i : Int) ∧ (rd_T31 (lvs o) (((m1 + 1 : Nat) : Int) - 1)).f2 ≥ 0
   ·rw [if_pos hC]
    have hw : Want (lvs o) (i + 1) ((m1 + 1 : Nat) : Int) = false := by unfold Want; apply decide_eq_false; omega
    rw [List.filter_cons_of_neg (by rw [hw]; decide), List.filter_nil, List.append_nil]
    have hk := ge.kill (s := bs [45]) (n := ((m1 + 1 : Nat) : Int)) (bs_toList _) (by simp)
    rw [List.append_assoc] at hk
    have hf : (l1.filter (Want (lvs o) (i + 1)) ++ [((m1 + 1 : Nat) : Int)]).filter (fun y => y != ((m1 + 1 : Nat) : Int)) = l1.filter (Want (lvs o) (i + 1)) := by
     rw [List.filter_append, List.filter_cons_of_neg (by simp), List.filter_nil, List.append_nil]
     apply List.filter_eq_self.2
     intro a ha
     have := (hr a (List.mem_filter.1 ha).1).2
     simp only [bne_iff_ne]
     omega
    rw [hf] at hk
    exact hk
   ·rw [if_neg hC]
    have hw : Want (lvs o) (i + 1) ((m1 + 1 : Nat) : Int) = true := by unfold Want; apply decide_eq_true; omega
    rw [List.filter_cons_of_pos hw, List.filter_nil]
    exact ge
  ·obtain ⟨rfl, rfl⟩ := g'.uniq g2
   have hrn := hr _ hn
   obtain ⟨j, hj, _, S, K⟩ := g.lv_at (n := e.f1) hrn.1 (by omega)
   have hlast := S.last i e h1 hj (by rw [hs]; decide)
   have hwi : Want (lvs o) i e.f1 = true := by unfold Want; apply decide_eq_true; omega
   have ge := ih.use (s := e.f0) (n := e.f1) hs (List.mem_filter.2 ⟨hn, hwi⟩)
   unfold early1
   rw [if_neg (by rw [hs]; decide)]
   by_cases hC : (rd_T31 (lvs o) (e.f1 - 1)).f1 = (i : Int) ∧ (rd_T31 (lvs o) (e.f1 - 1)).f2 ≥ 0
   ·rw [if_pos hC]
    have hw : Want (lvs o) (i + 1) e.f1 = false := by unfold Want; apply decide_eq_false; omega
    have hk := ge.kill (s := bs [45]) (n := e.f1) (bs_toList _) (List.mem_filter.2 ⟨hn, hwi⟩)
    rw [List.append_assoc] at hk
    have hf : (l'.filter (Want (lvs o) i)).filter (fun y => y != e.f1) = l'.filter (Want (lvs o) (i + 1)) := by
     rw [List.filter_filter]
     apply List.filter_congr
     intro n hn2
     by_cases hne : n = e.f1
     ·subst hne
      rw [hw]
      simp
     ·rw [want_next g (hr n hn2).1 (by have := hr n hn2; omega) h1 (.inl (fun h => hne h.symm))]
      simp [hne]
    rw [hf] at hk
    exact hk
   ·rw [if_neg hC]
    have hw : Want (lvs o) (i + 1) e.f1 = true := by unfold Want; apply decide_eq_true; omega
    have hf : l'.filter (Want (lvs o) i) = l'.filter (Want (lvs o) (i + 1)) := by
     apply List.filter_congr
     intro n hn2
     by_cases hne : n = e.f1
     ·subst hne
      rw [hw, hwi]
     ·exact want_next g (hr n hn2).1 (by have := hr n hn2; omega) h1 (.inl (fun h => hne h.symm))
    rw [hf] at ge
    exact ge
  ·obtain ⟨rfl, rfl⟩ := g'.uniq g2
   have hrn := hr _ hn
   obtain ⟨j, hj, _, S, K⟩ := g.lv_at (n := e.f1) hrn.1 (by omega)
   have hd := S.died i e h1 hj hs
   have hud := K.ud (by omega)
   have hwi : Want (lvs o) i e.f1 = false := by unfold Want; apply decide_eq_false; omega
   unfold early1
   rw [if_pos hs, List.append_nil]
   have hf : l1.filter (Want (lvs o) i) = (l1.filter (fun y => y != e.f1)).filter (Want (lvs o) (i + 1)) := by
    rw [List.filter_filter]
    apply List.filter_congr
    intro n hn2
    by_cases hne : n = e.f1
    ·subst hne
     rw [hwi]
     simp
    ·rw [want_next g (hr n hn2).1 (by have := hr n hn2; omega) h1 (.inr hs)]
     simp [hne]
   rw [← hf]
   exact ih
theorem jn_cons (p q : List UInt8) (r : List (List UInt8)) : jn (p :: q :: r) = p ++ [32] ++ jn (q :: r) := by
 unfold jn
 rw [Lib.join_cons, Lib.join_cons]
 simp [Lib.joinTail]
theorem cut_ne : ∀ l : List UInt8, cutL l ≠ []
 | [] => by simp [cutL]
 | c :: r => by
  rw [cutL]
  split
  ·simp
  ·cases h : cutL r with
   | nil => exact absurd h (cut_ne r)
   | cons a b => simp [pre]
theorem jn_pre (p : List UInt8) : ∀ X : List (List UInt8), X ≠ [] → jn (pre p X) = p ++ jn X
 | [], h => absurd rfl h
 | [a], _ => by simp [pre, jn_one]
 | a :: b :: r, _ => by
  rw [pre, jn_cons, jn_cons]
  simp
theorem jn_cut : ∀ l : List UInt8, jn (cutL l) = l
 | [] => by simp [cutL, jn_one]
 | c :: r => by
  have ih := jn_cut r
  rw [cutL]
  split
  ·rename_i hc
   subst hc
   cases h : cutL r with
   | nil => exact absurd h (cut_ne r)
   | cons a b =>
    rw [jn_cons, ← h, ih]
    rfl
  ·rw [jn_pre _ _ (cut_ne r), ih]
   rfl
theorem cut_app : ∀ (p : List UInt8), (32 : UInt8) ∉ p → ∀ r : List UInt8, cutL (p ++ r) = pre p (cutL r)
 | [], _, r => by rw [List.nil_append, pre_nil]
 | c :: p, h, r => by
  have hc : ¬ c = 32 := fun e => h (by rw [e]; exact List.mem_cons_self)
  rw [List.cons_append, cutL, if_neg hc, cut_app p (fun e => h (List.mem_cons_of_mem _ e)) r, pre_pre]
  rfl
theorem cut_jn : ∀ ps : List (List UInt8), ps ≠ [] → (∀ p ∈ ps, (32 : UInt8) ∉ p) → cutL (jn ps) = ps
 | [], h, _ => absurd rfl h
 | [p], _, hp => by
  rw [jn_one]
  have := cut_app p (hp p (by simp)) []
  rw [List.append_nil] at this
  rw [this]
  simp [cutL, pre]
 | p :: q :: r, _, hp => by
  rw [jn_cons, List.append_assoc, cut_app p (hp p (by simp)), List.cons_append, List.nil_append, cutL, if_pos rfl, cut_jn (q :: r) (by simp) (fun x hx => hp x (List.mem_cons_of_mem _ hx))]
  simp [pre]
theorem pieces_data (s : ByteArray) : (pieces s).map (·.data.toList) = cutL s.data.toList := by
 unfold pieces
 rw [Lib.splitB_data]
 exact splitK_cut _
theorem text_pieces (s : ByteArray) : s.data.toList = jn ((pieces s).map (·.data.toList)) := by rw [pieces_data, jn_cut]
def Tidy (e : S55) : Prop := ∃ c : UInt8, e.f0 = bs [c]
theorem bs_of {s : ByteArray} {l : List UInt8} (h : s.toList = l) : s = bs l := by rw [← h, bs_self]
theorem sgn_dig {s : ByteArray} (h : s.size ≠ 0) : s.data.toList = (sgn s).data.toList ++ (dig s).data.toList := by
 unfold sgn dig
 cases hd : s.data.toList with
 | nil =>
  exfalso
  apply h
  have := congrArg List.length hd
  simpa using this
 | cons c r =>
  have hsz : s.size = r.length + 1 := by
   have := congrArg List.length hd
   simpa using this
  simp [hd, hsz]
theorem tsign_ev {st st' : Tst} {s : ByteArray} {n : Int} (h : tsign st s n = some st') : st'.out = st.out ++ [⟨sgn s, n⟩] ∧ ((sgn s).toList = [43] ∨ (sgn s).toList = [46] ∨ (sgn s).toList = [45]) := by
 unfold tsign at h
 split at h
 ·rename_i hc
  injection h with h; subst h; exact ⟨rfl, .inl hc.1⟩
 ·split at h
  ·rename_i hc
   injection h with h; subst h; exact ⟨rfl, .inr (.inl hc.1)⟩
  ·split at h
   ·rename_i hc
    injection h with h; subst h; exact ⟨rfl, .inr (.inr hc.1)⟩
   ·cases h
theorem numOf_dig {s : ByteArray} {n : Int} (h : numOf s = some n) : (dig s).data.toList = Lib.itoa n := by
 unfold numOf at h
 split at h
 ·split at h
  ·rename_i he
   injection h with h
   rw [← h, he]
  ·cases h
 ·cases h
theorem tloop_pieces : ∀ (ws : List ByteArray) (st st' : Tst), tloop ws st = some st' → ∃ es : List S55, st'.out = st.out ++ es ∧ ws.map (·.data.toList) = es.map piece ∧ ∀ e ∈ es, Tidy e
 | [], st, st', h => by
  rw [tloop] at h
  injection h with h
  subst h
  exact ⟨[], by simp, rfl, by simp⟩
 | s :: r, st, st', h => by
  rw [tloop] at h
  cases hs : tstep st s with
  | none => rw [hs] at h; cases h
  | some st1 =>
   rw [hs] at h
   unfold tstep at hs
   split at hs
   ·cases hs
   ·rename_i hz
    split at hs
    ·cases hs
    ·rename_i n hn
     split at hs
     ·cases hs
     ·obtain ⟨h1, h2⟩ := tsign_ev hs
      obtain ⟨es, e1, e2, e3⟩ := tloop_pieces r st1 st' h
      refine ⟨⟨sgn s, n⟩ :: es, by rw [e1, h1]; simp, ?_, ?_⟩
      ·rw [List.map_cons, List.map_cons, e2]
       congr 1
       unfold piece
       rw [sgn_dig hz, numOf_dig hn, Lib.toList_data]
      ·intro e he
       rcases List.mem_cons.1 he with rfl | he
       ·rcases h2 with h2 | h2 | h2 <;> exact ⟨_, bs_of h2⟩
       ·exact e3 e he
theorem told_text {a0 : ByteArray} (h : (toldOf a0).2.2 = true) : a0 = txt ((toldOf a0).1.map piece) ∧ ∀ e ∈ (toldOf a0).1, Tidy e := by
 unfold toldOf at h ⊢
 by_cases h45 : a0.toList = [45]
 ·rw [if_pos h45]
  refine ⟨?_, by simp⟩
  rw [bs_of h45]
  rfl
 ·rw [if_neg h45] at h ⊢
  cases hs : tloop (pieces a0) ⟨[], 0, []⟩ with
  | none => rw [hs] at h; cases h
  | some st =>
   obtain ⟨es, e1, e2, e3⟩ := tloop_pieces _ _ _ hs
   simp only [List.nil_append] at e1
   simp only [e1]
   refine ⟨?_, e3⟩
   have ht := text_pieces a0
   rw [e2] at ht
   have hne : es.map piece ≠ [] := by
    rw [← e2, pieces_data]
    exact cut_ne _
   unfold txt
   rw [if_neg hne, ← ht, ← Lib.toList_data, bs_self]
theorem tloop_snoc (s : ByteArray) : ∀ (ws : List ByteArray) (st : Tst), tloop (ws ++ [s]) st = (tloop ws st).bind (fun st' => tstep st' s)
 | [], st => by
  rw [List.nil_append]
  show (match tstep st s with
   | none => none
   | some st' => tloop [] st') = tstep st s
  cases tstep st s <;> rfl
 | a :: r, st => by
  rw [List.cons_append, tloop, tloop]
  cases tstep st a with
  | none => rfl
  | some st1 => exact tloop_snoc s r st1
theorem bs_sgn (c : UInt8) (r : List UInt8) : sgn (bs (c :: r)) = bs [c] := by
 unfold sgn
 apply ByteArray.ext
 apply Array.ext'
 simp [bs]
theorem bs_dig (c : UInt8) (r : List UInt8) : (dig (bs (c :: r))).data.toList = r := by
 unfold dig
 simp [bs, ByteArray.size]
theorem tstep_piece {o : List S55} {m : Nat} {l : List Int} {c : UInt8} {n : Nat} (hn : 1 ≤ n) (hn6 : n ≤ 601) (hl : o.length < 600) :
  tstep ⟨o, (m : Int), l⟩ (bs (c :: Lib.itoa (n : Int))) = tsign ⟨o, (m : Int), l⟩ (bs (c :: Lib.itoa (n : Int))) (n : Int) := by
 unfold tstep
 rw [if_neg (by rw [bs_size]; simp)]
 have h := (numOf_iff (bs (c :: Lib.itoa (n : Int))) n hn hn6).2 (by rw [bs_dig]; exact Lib.itoa_nonneg n)
 rw [h]
 show (if o.length = 600 then none else _) = _
 rw [if_neg (by omega)]
theorem piece_tidy {c : UInt8} {n : Int} {s : ByteArray} (hs : s = bs [c]) : piece ⟨s, n⟩ = c :: Lib.itoa n := by
 unfold piece
 rw [hs, bs_toList]
 rfl
theorem tloop_told {o : List S55} {m : Nat} {l : List Int} (g : Good o m l) (hl : o.length ≤ 600) (ht : ∀ e ∈ o, Tidy e) : tloop ((o.map piece).map bs) ⟨[], 0, []⟩ = some ⟨o, (m : Int), l⟩ := by
 induction g with
 | nil => rfl
 | @make o m l s g hs ih =>
  rw [List.length_append, List.length_singleton] at hl
  have hm := g.made
  rw [List.map_append, List.map_append, List.map_singleton, List.map_singleton, tloop_snoc, ih (by omega) (fun e he => ht e (List.mem_append_left _ he))]
  have hb := bs_of hs
  rw [piece_tidy hb]
  show tstep _ _ = _
  rw [tstep_piece (by omega) (by omega) (by omega)]
  unfold tsign
  rw [bs_sgn, bs_toList, if_pos ⟨rfl, by simp only []; omega⟩, hb]
  simp
 | @use o m l s n g hs hn ih =>
  rw [List.length_append, List.length_singleton] at hl
  have hm := g.made
  have hr := g.range _ hn
  obtain ⟨k, rfl⟩ := Int.eq_ofNat_of_zero_le (show 0 ≤ n by omega)
  rw [List.map_append, List.map_append, List.map_singleton, List.map_singleton, tloop_snoc, ih (by omega) (fun e he => ht e (List.mem_append_left _ he))]
  have hb := bs_of hs
  rw [piece_tidy hb]
  show tstep _ _ = _
  rw [tstep_piece (by omega) (by omega) (by omega)]
  unfold tsign
  rw [bs_sgn, bs_toList, if_neg (fun h => by simp at h), if_pos ⟨rfl, hn⟩, hb]
 | @kill o m l s n g hs hn ih =>
  rw [List.length_append, List.length_singleton] at hl
  have hm := g.made
  have hr := g.range _ hn
  obtain ⟨k, rfl⟩ := Int.eq_ofNat_of_zero_le (show 0 ≤ n by omega)
  rw [List.map_append, List.map_append, List.map_singleton, List.map_singleton, tloop_snoc, ih (by omega) (fun e he => ht e (List.mem_append_left _ he))]
  have hb := bs_of hs
  rw [piece_tidy hb]
  show tstep _ _ = _
  rw [tstep_piece (by omega) (by omega) (by omega)]
  unfold tsign
  rw [bs_sgn, bs_toList, if_neg (fun h => by simp at h), if_neg (fun h => by simp at h), if_pos ⟨rfl, hn⟩, hb]
theorem digits_plain : ∀ (k u : Nat), u < k → ∀ c ∈ Lib.decDigits u, 48 ≤ c.toNat
 | 0, u, h, _, _ => by omega
 | k + 1, u, h, c, hc => by
  rw [Lib.decDigits] at hc
  split at hc
  ·rename_i hu
   have := List.mem_singleton.1 hc
   subst this
   rw [ofNat_digit hu]
   omega
  ·rcases List.mem_append.1 hc with hc | hc
   ·exact digits_plain k (u / 10) (by omega) c hc
   ·have := List.mem_singleton.1 hc
    subst this
    rw [ofNat_digit (by omega)]
    omega
theorem piece_plain {o : List S55} {m : Nat} {l : List Int} (g : Good o m l) : ∀ p ∈ o.map piece, (32 : UInt8) ∉ p := by
 intro p hp h32
 obtain ⟨e, he, rfl⟩ := List.mem_map.1 hp
 have hv := g.values e he
 unfold piece at h32
 rcases List.mem_append.1 h32 with h | h
 ·rcases g.signs e he with hs | hs | hs <;> rw [hs] at h <;> simp at h
 ·obtain ⟨k, hk⟩ := Int.eq_ofNat_of_zero_le (show 0 ≤ e.f1 by omega)
  rw [hk, Lib.itoa_nonneg] at h
  have := digits_plain (k + 1) k (by omega) _ h
  simp at this
theorem piece_two {o : List S55} {m : Nat} {l : List Int} (g : Good o m l) : ∀ p ∈ o.map piece, 2 ≤ p.length := by
 intro p hp
 obtain ⟨e, he, rfl⟩ := List.mem_map.1 hp
 have hne := itoa_some e.f1
 unfold piece
 have h1 : 1 ≤ (Lib.itoa e.f1).length := List.length_pos_iff.2 hne
 rcases g.signs e he with hs | hs | hs <;> rw [hs] <;> simp <;> omega
theorem jn_long : ∀ ps : List (List UInt8), ps ≠ [] → (∀ p ∈ ps, 2 ≤ p.length) → 2 ≤ (jn ps).length
 | [], h, _ => absurd rfl h
 | [p], _, hp => by rw [jn_one]; exact hp p (by simp)
 | p :: q :: r, _, hp => by
  have := hp p (by simp)
  rw [jn_cons]
  simp
  omega
theorem text_told {o : List S55} {m : Nat} {l : List Int} (g : Good o m l) (hl : o.length ≤ 600) (ht : ∀ e ∈ o, Tidy e) : toldOf (txt (o.map piece)) = (o, (m : Int), true) := by
 by_cases ho : o = []
 ·subst ho
  have hm := g.made
  have : m = 0 := by
   have h1 := hm.1
   simpa using h1
  subst this
  have e : txt ([] : List (List UInt8)) = bs [45] := rfl
  show toldOf (txt []) = _
  rw [e]
  unfold toldOf
  rw [bs_toList, if_pos rfl]
  rfl
 ·have hne : o.map piece ≠ [] := by simpa using ho
  have hlong := jn_long _ hne (piece_two g)
  have htx : txt (o.map piece) = bs (jn (o.map piece)) := by unfold txt; rw [if_neg hne]
  unfold toldOf
  rw [htx, bs_toList, if_neg (fun h => by rw [h] at hlong; simp at hlong)]
  have hp : pieces (bs (jn (o.map piece))) = (o.map piece).map bs := by
   apply bytes_lists
   rw [pieces_data, bs_list, cut_jn _ hne (piece_plain g)]
   rw [List.map_map]
   have : ((fun x : ByteArray => x.data.toList) ∘ bs) = id := by
    funext x
    exact bs_list x
   rw [this, List.map_id]
  rw [hp, tloop_told g hl ht]
theorem early_mem (xs : List S31) (x : S55) : ∀ (o : List S55) (i : Int), x ∈ early xs o i ↔ ∃ (k : Nat) (e : S55), o[k]? = some e ∧ x ∈ early1 xs e (i + k)
 | [], i => by simp [early]
 | a :: r, i => by
  rw [early, List.mem_append, early_mem xs x r (i + 1)]
  constructor
  ·rintro (h | ⟨k, e, h1, h2⟩)
   ·exact ⟨0, a, rfl, by simpa using h⟩
   ·exact ⟨k + 1, e, by simpa using h1, by rw [show i + ((k + 1 : Nat) : Int) = i + 1 + k by omega]; exact h2⟩
  ·rintro ⟨k, e, h1, h2⟩
   cases k with
   | zero =>
    simp at h1
    subst h1
    exact .inl (by simpa using h2)
   | succ k => exact .inr ⟨k, e, by simpa using h1, by rw [show i + 1 + (k : Int) = i + ((k + 1 : Nat) : Int) by omega]; exact h2⟩
theorem early_minus (xs : List S31) : ∀ (o : List S55) (i : Int) (p : Nat) (e : S55), (early xs o i)[p]? = some e → e.f0.toList = [45] →
  ∃ (q : Nat) (e' : S55), p = q + 1 ∧ (early xs o i)[q]? = some e' ∧ e'.f1 = e.f1 ∧ e'.f0.toList ≠ [45] ∧ (rd_T31 xs (e.f1 - 1)).f2 ≥ 0
 | [], i, p, e, h, _ => by simp [early] at h
 | a :: r, i, p, e, h, hs => by
  rw [early] at h ⊢
  have step : ∀ (z : List S55), early1 xs a i = z → z.length ≤ p → ∃ (q : Nat) (e' : S55), p = q + 1 ∧ (z ++ early xs r (i + 1))[q]? = some e' ∧ e'.f1 = e.f1 ∧ e'.f0.toList ≠ [45] ∧ (rd_T31 xs (e.f1 - 1)).f2 ≥ 0 := by
   intro z hz hp
   rw [hz, List.getElem?_append_right hp] at h
   obtain ⟨q, e', h1, h2, h3, h4, h5⟩ := early_minus xs r (i + 1) (p - z.length) e h hs
   exact ⟨q + z.length, e', by omega, by rw [List.getElem?_append_right (by omega), show q + z.length - z.length = q by omega]; exact h2, h3, h4, h5⟩
  by_cases ha : a.f0.toList = [45]
  ·have hz : early1 xs a i = [] := by unfold early1; rw [if_pos ha]
   rw [hz]
   exact step [] hz (Nat.zero_le _)
  ·by_cases hC : (rd_T31 xs (a.f1 - 1)).f1 = i ∧ (rd_T31 xs (a.f1 - 1)).f2 ≥ 0
   ·have hz : early1 xs a i = [a, ⟨bs [45], a.f1⟩] := by unfold early1; rw [if_neg ha, if_pos hC]
    rw [hz] at h ⊢
    match p, h with
    | 0, h =>
     simp at h
     subst h
     exact absurd hs ha
    | 1, h =>
     simp at h
     subst h
     exact ⟨0, a, rfl, by simp, rfl, ha, hC.2⟩
    | p + 2, h => exact step _ hz (by simp)
   ·have hz : early1 xs a i = [a] := by unfold early1; rw [if_neg ha, if_neg hC]
    rw [hz] at h ⊢
    match p, h with
    | 0, h =>
     simp at h
     subst h
     exact absurd hs ha
    | p + 1, h => exact step _ hz (by simp)
theorem Good.early_all {o : List S55} {m : Nat} {l : List Int} (g : Good o m l) : ∃ l', Good (Pr.early (lvs o) o 0) m l' := by
 have h := g.early o.length m l (Nat.le_refl _) (by rw [List.take_length]; exact g)
 rw [List.take_length] at h
 exact ⟨_, h⟩
def Prompt (o : List S55) (m : Nat) : Prop := ∀ n : Int, 1 ≤ n → n ≤ m → (rd_T31 (lvs o) (n - 1)).f2 < 0 ∨ (rd_T31 (lvs o) (n - 1)).f2 = (rd_T31 (lvs o) (n - 1)).f1 + 1
theorem Good.early_lives {o : List S55} {m : Nat} {l : List Int} (g : Good o m l) {l' : List Int} (gE : Good (Pr.early (lvs o) o 0) m l') :
  Prompt (Pr.early (lvs o) o 0) m ∧ ∀ n : Int, 1 ≤ n → n ≤ m → ((rd_T31 (lvs (Pr.early (lvs o) o 0)) (n - 1)).f2 < 0 ↔ (rd_T31 (lvs o) (n - 1)).f2 < 0) := by
 have key : ∀ n : Int, 1 ≤ n → n ≤ m → 0 ≤ (rd_T31 (lvs (Pr.early (lvs o) o 0)) (n - 1)).f2 → (rd_T31 (lvs (Pr.early (lvs o) o 0)) (n - 1)).f2 = (rd_T31 (lvs (Pr.early (lvs o) o 0)) (n - 1)).f1 + 1 ∧ (rd_T31 (lvs o) (n - 1)).f2 ≥ 0 := by
  intro n h1 h2 h0
  obtain ⟨j, hj, _, S, K⟩ := gE.lv_at h1 h2
  obtain ⟨d, hd, e, hd1, hd2, hd3⟩ := S.dead h0
  obtain ⟨q, e', rfl, q1, q2, q3, q4⟩ := early_minus _ _ _ _ _ hd1 hd2
  have hl := S.last q e' q1 (by rw [q2, hd3]) q3
  have hu := K.ud h0
  rw [hd3, ← hj] at q4
  exact ⟨by omega, q4⟩
 refine ⟨fun n h1 h2 => ?_, fun n h1 h2 => ?_⟩
 ·by_cases h0 : (rd_T31 (lvs (Pr.early (lvs o) o 0)) (n - 1)).f2 < 0
  ·exact .inl h0
  ·exact .inr (key n h1 h2 (by omega)).1
 ·constructor
  ·intro h0
   apply Classical.byContradiction
   intro hx
   obtain ⟨j, hj, _, S, K⟩ := g.lv_at h1 h2
   obtain ⟨u, hu, e, hu1, hu2, hu3⟩ := S.used
   have hm : (⟨bs [45], n⟩ : S55) ∈ Pr.early (lvs o) o 0 := by
    refine (early_mem _ _ _ _).2 ⟨u, e, hu1, ?_⟩
    unfold early1
    rw [if_neg hu2, if_pos ⟨by rw [hu3, ← hj, hu]; omega, by rw [hu3, ← hj]; omega⟩]
    simp [hu3, hj]
   obtain ⟨d, hd⟩ := List.mem_iff_getElem?.1 hm
   obtain ⟨j', hj', _, S', _⟩ := gE.lv_at h1 h2
   have := S'.died d _ hd hj' (bs_toList _)
   omega
  ·intro hx
   apply Classical.byContradiction
   intro h0
   have := (key n h1 h2 (by omega)).2
   omega
theorem Good.prompt {o : List S55} {m : Nat} {l : List Int} (g : Good o m l) (ht : ∀ e ∈ o, Tidy e) (hp : Prompt o m) : ∀ (d i : Nat), i + d = o.length → (∀ e, o[i]? = some e → e.f0.toList ≠ [45]) → Pr.early (lvs o) (o.drop i) (i : Int) = o.drop i
 | 0, i, hi, _ => by
  rw [List.drop_of_length_le (by omega)]
  rfl
 | d + 1, i, hi, hne => by
  have hlt : i < o.length := by omega
  have he : o[i]? = some o[i] := List.getElem?_eq_getElem hlt
  have h45 := hne _ he
  have hv := g.values _ (List.getElem_mem hlt)
  obtain ⟨j, hj, _, S, K⟩ := g.lv_at hv.1 hv.2
  rw [List.drop_eq_getElem_cons hlt, Pr.early]
  unfold early1
  rw [if_neg h45]
  by_cases hC : (rd_T31 (lvs o) (o[i].f1 - 1)).f1 = (i : Int) ∧ (rd_T31 (lvs o) (o[i].f1 - 1)).f2 ≥ 0
  ·rw [if_pos hC]
   have hpv := (hp o[i].f1 hv.1 hv.2).resolve_left (by omega)
   obtain ⟨q, hq, e2, hq1, hq2, hq3⟩ := S.dead hC.2
   have hqi : q = i + 1 := by omega
   subst hqi
   have hlt2 : i + 1 < o.length := (List.getElem?_eq_some_iff.1 hq1).1
   have he2 : o[i + 1] = e2 := (List.getElem?_eq_some_iff.1 hq1).2
   have hd2 : o.drop (i + 1) = e2 :: o.drop (i + 2) := by rw [List.drop_eq_getElem_cons hlt2, he2]
   have hev : e2 = ⟨bs [45], o[i].f1⟩ := by
    have hb := bs_of hq2
    rw [← hb, hj, ← hq3]
   obtain ⟨d', rfl⟩ : ∃ d', d = d' + 1 := ⟨d - 1, by omega⟩
   have ih := Good.prompt g ht hp d' (i + 2) (by omega) (fun e3 h3 hs3 => by
    have hv3 := g.values _ (List.mem_of_getElem? h3)
    obtain ⟨j3, hj3, _, S3, K3⟩ := g.lv_at hv3.1 hv3.2
    have hd3 := S3.died _ _ h3 hj3 hs3
    have hp3 := (hp e3.f1 hv3.1 hv3.2).resolve_left (by omega)
    have := (g.at_used hv3.1 hv3.2 hq1 (by omega)).2
    exact this hq2)
   have hsk : Pr.early (lvs o) (o.drop (i + 1)) ((i : Int) + 1) = Pr.early (lvs o) (o.drop (i + 2)) (((i + 2 : Nat)) : Int) := by
    rw [hd2, Pr.early]
    unfold early1
    rw [if_pos hq2, List.nil_append]
    congr 1
   rw [hsk, ih, hd2, hev]
   rfl
  ·rw [if_neg hC]
   have ih := Good.prompt g ht hp d (i + 1) (by omega) (fun e3 h3 hs3 => by
    have hv3 := g.values _ (List.mem_of_getElem? h3)
    obtain ⟨j3, hj3, _, S3, K3⟩ := g.lv_at hv3.1 hv3.2
    have hd3 := S3.died _ _ h3 hj3 hs3
    have hp3 := (hp e3.f1 hv3.1 hv3.2).resolve_left (by omega)
    have hu := g.at_used hv3.1 hv3.2 he (by omega)
    rw [hu.1] at hC
    exact hC ⟨by omega, by omega⟩)
   rw [show ((i : Int) + 1) = ((i + 1 : Nat) : Int) by omega, ih]
   rfl
theorem Good.prompt_early {o : List S55} {m : Nat} {l : List Int} (g : Good o m l) (ht : ∀ e ∈ o, Tidy e) (hp : Prompt o m) : Pr.early (lvs o) o 0 = o := by
 have h := g.prompt ht hp o.length 0 (Nat.zero_add _) (fun e he hs => by
  have hv := g.values _ (List.mem_of_getElem? he)
  obtain ⟨j, hj, _, S, K⟩ := g.lv_at hv.1 hv.2
  have hd := S.died _ _ he hj hs
  have hu := K.ud (by omega)
  have := K.born
  have := K.used
  omega)
 rw [List.drop_zero] at h
 exact h
end Go.Proofs.YtndjbnkmhpbnpaaGreatDoor.Pr
namespace Go.Proofs.YtndjbnkmhpbnpaaGreatDoor.Pr
open Go.RowKit Go.Proofs.YtndjbnkmhpbnpaaGreatDoorW.PrintWords Go.Proofs.YtndjbnkmhpbnpaaGreatDoorW.PrintLast Go.Proofs.YtndjbnkmhpbnpaaGreatDoorW.PrintMore
attribute [local go_sem] max2_int min2_int max_two min_two max_three min_three max_four min_four   -- for this text's walks alone
set_option linter.unusedVariables false
set_option linter.unusedSimpArgs false
def impl_MostAlive.l0 : Nat → Int → List (S31) → Int → Int → Option (Int)
 | 0, _, _, _, _ => none
 | k + 1, x6, x7, x21, x22 => if x22 < x21 then ((impl_alive.f k x7 x22).bind fun t287 => (impl_MostAlive.l0 k (mx x6 (t287.length : Int)) x7 x21 (wrap64 (x22 + 1)))) else (some x6)
def impl_MostAlive.f (k : Nat) (a0 : ByteArray) : Option (Int) := (impl_told.f a0).bind fun bt279 => (if bt279.2.2 = true then ((impl_lives.f bt279.1 bt279.2.1).bind fun t284 => (impl_MostAlive.l0 k 0 t284 (bt279.1.length : Int) 0)) else (some (-1)))
set_option maxHeartbeats 8000000 in
set_option maxRecDepth 100000 in
theorem impl_MostAlive.calls (k : Nat) (a0 : ByteArray) (r : Int) (w : World) (hLd : LaidW w) (h : impl_MostAlive.f k a0 = some r) :
  Calls Tryz.prog 15 #[.string a0] w fun e w' => e = .returned (.int .i64 r) ∧ Below w.heap.size w w' := by
 have HB := Az.mk (Below.refl w.heap.size w)
 have HLd := Az.mk hLd
 clear hLd
 have H : ((impl_told.f a0).bind fun bt279 => (if bt279.2.2 = true then ((impl_lives.f bt279.1 bt279.2.1).bind fun t284 => (impl_MostAlive.l0 k 0 t284 (bt279.1.length : Int) 0)) else (some (-1)))) = some r := h
 clear h
 replace H := Option.bind_eq_some_iff.mp H
 obtain ⟨⟨t279, t280, t281⟩, A20, H⟩ := H
 replace H : (if t281 = true then ((impl_lives.f t279 t280).bind fun t284 => (impl_MostAlive.l0 k 0 t284 (t279.length : Int) 0)) else (some (-1))) = some r := H
 have A2 := Az.mk A20
 clear A20
 by_cases c3 : t281 = true
 ·subst c3
  have H1 : ((impl_lives.f t279 t280).bind fun t284 => (impl_MostAlive.l0 k 0 t284 (t279.length : Int) 0)) = some r := by rw [if_pos rfl] at H; exact H
  clear H
  have H := H1
  clear H1
  replace H := Option.bind_eq_some_iff.mp H
  obtain ⟨t284, A40, H⟩ := H
  replace H : (impl_MostAlive.l0 k 0 t284 (t279.length : Int) 0) = some r := H
  have A4 := Az.mk A40
  clear A40
  have H' := Az.mk H
  clear H
  go_enter Tryz.func15, Tryz.ntmps15
  go_wp2_with (first | ((with_reducible refine gate_callee (f := 50) rfl ?_); refine goesL_ (some 11) rfl rfl Tryz.func50 (by kernel_rfl) rfl #[.string a0] rfl (by (try simp only [List.map_toArray, List.map_cons, List.map_nil]); first | done | rfl | (simp only [List.length_drop, List.length_take]; rfl)) ?_; (with_reducible refine (impl_told.calls a0 t279 t280 true _ (HLd.out.below (by repeat first|exact HB.out|apply bA|apply bN|apply bD)) A2.out).mono ?_); rintro e w5 ⟨v282, rfl, ho0, hb⟩; refine ⟨_, rfl, ?_⟩; have n0_ := Az.mk (Kd.R_lower ho0 (bZ (by repeat first|exact HB.out|apply bA|apply bN|apply bD))); have n1_ := Az.mk (bS (by repeat first|exact HB.out|apply bA|apply bN|apply bD) hb); clear HB; have HO283 := n0_; have HB := n1_; clear n0_ n1_; (try clear hb); (try clear hb2); (try clear hk); (try clear hi); (try clear ho0); obtain ⟨Ao6, co6, eo6⟩ := Kd.R_slice HO283.out; subst eo6) | ((with_reducible refine gate_callee (f := 51) rfl ?_); refine goesL_ (some 19) rfl rfl Tryz.func51 (by kernel_rfl) rfl #[.slice Ao6 t279.length co6, .int .i64 t280] rfl (by (try simp only [List.map_toArray, List.map_cons, List.map_nil]); first | done | rfl | (simp only [List.length_drop, List.length_take]; rfl)) ?_; (with_reducible refine (impl_lives.calls _ _ t279 t280 t284 _ ?side1 ?side2 A4.out).mono ?_); (case side1 => repeat (first | exact (Kd.R_reads' HO283.out).2.2 | (with_reducible refine Kd.C_alloc ?_ _) | (with_reducible refine Kd.C_drewN ?_ _) | (with_reducible refine Kd.C_drew ?_))); (case side2 => exact (Kd.R_reads' HO283.out).2.1); rintro e w7 ⟨v285, rfl, ho0, hb⟩; refine ⟨_, rfl, ?_⟩; have n0_ := Az.mk (Kd.Rb (by (with_reducible repeat first|apply Kd.Ra|apply Kd.Rn|apply Kd.Rw); exact HO283.out) hb); have n1_ := Az.mk (Kd.R_lower ho0 (bZ (by repeat first|exact HB.out|apply bA|apply bN|apply bD))); have n2_ := Az.mk (bS (by repeat first|exact HB.out|apply bA|apply bN|apply bD) hb); clear HO283; clear HB; have HO283 := n0_; have HO286 := n1_; have HB := n2_; clear n0_ n1_ n2_; (try clear hb); (try clear hb2); (try clear hk); (try clear hi); (try clear ho0)))
  go_loopg [6, 22] k (fun kq v6 v22 w' => ∃ (x6_1 : Int) (x22_1 : Int), v6 = .int .i64 x6_1 ∧ v22 = .int .i64 x22_1 ∧ Az (impl_MostAlive.l0 kq x6_1 t284 (t279.length : Int) x22_1 = some r) ∧ Az (kq ≤ k) ∧ Az (Kd.R k31 31 w' w.heap.size (fun _ => True) v285 t284) ∧ Az (Below w.heap.size w w'))
  case atStart => exact ⟨(0), (0), (by first | rfl | (simp; done) | (simp [*]; done)), (by first | rfl | (simp; done) | (simp [*]; done)), H', ⟨Nat.le_refl _⟩, ⟨by (with_reducible repeat first|apply Kd.Ra|apply Kd.Rn|apply Kd.Rw); exact HO286.out⟩, ⟨by repeat (first | (with_reducible first|exact HB.out|apply bA|apply bN|apply bD) | exact HB.out)⟩⟩
  case round =>
   clear H'
   try clear c1
   try clear p2
   try clear c3
   try clear c5
   obtain ⟨x6_1, x22_1, rfl, rfl, HA, HK1, HO_7, HB⟩ := hrel
   cases gk with
   | zero => exact absurd HA.out (by simp [impl_MostAlive.l0])
   | succ k1 =>
    have H := HA.out
    clear HA
    simp only [impl_MostAlive.l0] at H
    by_cases c8 : x22_1 < (t279.length : Int)
    ·rw [if_pos c8] at H
     have c8b0 : decide (x22_1 < (t279.length : Int)) = true := decide_eq_true c8
     clear c8
     replace H := Option.bind_eq_some_iff.mp H
     obtain ⟨t287, A90, H⟩ := H
     replace H : (impl_MostAlive.l0 k1 (mx x6_1 (t287.length : Int)) t284 (t279.length : Int) (wrap64 (x22_1 + 1))) = some r := H
     have A9 := Az.mk A90
     clear A90
     obtain ⟨ji10, hji10⟩ : ∃ j_ : Int, (mx x6_1 (t287.length : Int)) = j_ := ⟨_, rfl⟩
     replace H : (impl_MostAlive.l0 k1 ji10 t284 (t279.length : Int) (wrap64 (x22_1 + 1))) = some r := by first | (rw [hji10] at H; exact H) | (simp only [hji10] at H ⊢; exact H)
     (try rw [hji10] at A9)
     have hji10_ : (if x6_1 < (t287.length : Int) then (t287.length : Int) else x6_1) = ji10 := hji10
     have H' := Az.mk H
     clear H
     obtain ⟨Ao11, co11, eo11⟩ := Kd.R_slice HO_7.out
     subst eo11
     go_wp2_with (first | ((with_reducible refine gate_callee (f := 57) rfl ?_); refine goesL_ (some 28) rfl rfl Tryz.func57 (by kernel_rfl) rfl #[.slice Ao11 t284.length co11, .int .i64 x22_1] rfl (by (try simp only [List.map_toArray, List.map_cons, List.map_nil]); first | done | rfl | (simp only [List.length_drop, List.length_take]; rfl)) ?_; (with_reducible refine (impl_alive.calls k1 _ _ t284 x22_1 t287 _ ?side1 ?side2 A9.out).mono ?_); (case side1 => repeat (first | exact (Kd.R_reads' HO_7.out).2.2 | (with_reducible refine Kd.C_alloc ?_ _) | (with_reducible refine Kd.C_drewN ?_ _) | (with_reducible refine Kd.C_drew ?_))); (case side2 => exact (Kd.R_reads' HO_7.out).2.1); rintro e w12 ⟨v288, rfl, ho0, hb⟩; refine ⟨_, rfl, ?_⟩; have n0_ := Az.mk (Kd.Rb (by (with_reducible repeat first|apply Kd.Ra|apply Kd.Rn|apply Kd.Rw); exact HO_7.out) hb); have n1_ := Az.mk (Kd.R_lower ho0 (bZ (by repeat first|exact HB.out|apply bA|apply bN|apply bD))); have n2_ := Az.mk (bS (by repeat first|exact HB.out|apply bA|apply bN|apply bD) hb); clear HO_7; clear HB; have HO_7 := n0_; have HO289 := n1_; have HB := n2_; clear n0_ n1_ n2_; (try clear hb); (try clear hb2); (try clear hk); (try clear hi); (try clear ho0); obtain ⟨Ao13, co13, eo13⟩ := Kd.R_slice HO289.out; subst eo13))
     go_roundg k1
     case measure => have := HK1.out; omega
     case rel => exact ⟨(ji10), (wrap64 (x22_1 + 1)), (by first | rfl | (simp; done) | (simp only [← hji10] <;> (first | rfl | simp)) | (simp [*]; done)), (by first | rfl | (simp; done) | (simp [*]; done)), H', ⟨by have := HK1.out; omega⟩, ⟨by (with_reducible repeat first|apply Kd.Ra|apply Kd.Rn|apply Kd.Rw); exact HO_7.out⟩, ⟨by repeat (first | (with_reducible first|exact HB.out|apply bA|apply bN|apply bD) | exact HB.out)⟩⟩
    ·rw [if_neg c8] at H
     have c8b0 : decide (x22_1 < (t279.length : Int)) = false := decide_eq_false c8
     clear c8
     obtain rfl := Option.some.inj H
     go_wp2
     go_ret
     exact ⟨by first | rfl | (simp [errW_none, errW_some] <;> rfl) | (simp [*, errW_none, errW_some] <;> rfl), by repeat (first | (with_reducible first|exact HB.out|apply bA|apply bN|apply bD) | exact HB.out)⟩
 ·replace c3 := Bool.eq_false_iff.mpr c3
  subst c3
  have H1 : (some (-1)) = some r := by rw [if_neg (show ¬ (false = true) by decide)] at H; exact H
  clear H
  have H := H1
  clear H1
  obtain rfl := Option.some.inj H
  go_enter Tryz.func15, Tryz.ntmps15
  go_wp2_with (first | ((with_reducible refine gate_callee (f := 50) rfl ?_); refine goesL_ (some 11) rfl rfl Tryz.func50 (by kernel_rfl) rfl #[.string a0] rfl (by (try simp only [List.map_toArray, List.map_cons, List.map_nil]); first | done | rfl | (simp only [List.length_drop, List.length_take]; rfl)) ?_; (with_reducible refine (impl_told.calls a0 t279 t280 false _ (HLd.out.below (by repeat first|exact HB.out|apply bA|apply bN|apply bD)) A2.out).mono ?_); rintro e w14 ⟨v282, rfl, ho0, hb⟩; refine ⟨_, rfl, ?_⟩; have n0_ := Az.mk (Kd.R_lower ho0 (bZ (by repeat first|exact HB.out|apply bA|apply bN|apply bD))); have n1_ := Az.mk (bS (by repeat first|exact HB.out|apply bA|apply bN|apply bD) hb); clear HB; have HO283 := n0_; have HB := n1_; clear n0_ n1_; (try clear hb); (try clear hb2); (try clear hk); (try clear hi); (try clear ho0)))
  go_ret
  exact ⟨by first | rfl | (simp [errW_none, errW_some] <;> rfl) | (simp [*, errW_none, errW_some] <;> rfl), by repeat (first | (with_reducible first|exact HB.out|apply bA|apply bN|apply bD) | exact HB.out)⟩
end Go.Proofs.YtndjbnkmhpbnpaaGreatDoor.Pr
namespace Go.Proofs.YtndjbnkmhpbnpaaGreatDoor.Pr
open Go.RowKit Go.Proofs.YtndjbnkmhpbnpaaGreatDoorW.PrintWords Go.Proofs.YtndjbnkmhpbnpaaGreatDoorW.PrintLast Go.Proofs.YtndjbnkmhpbnpaaGreatDoorW.PrintMore
def mst (xs : List S31) : Nat → Int → Int → Int
 | 0, _, a => a
 | d + 1, i, a => mst xs d (i + 1) (mx a ((alv xs 0 i).length : Int))
def mostOf (a0 : ByteArray) : Int := if (toldOf a0).2.2 = true then mst (lvs (toldOf a0).1) (toldOf a0).1.length 0 0 else -1
theorem mostI_go (xs : List S31) (hx : xs.length ≤ 1000000) (n : Nat) (hn : n ≤ 1000000) : ∀ (d i : Nat) (a : Int), i + d = n →
  Ev (fun k => impl_MostAlive.l0 k a xs (n : Int) (i : Int)) (mst xs d i a)
 | 0, i, a, hi => by
  refine Ev.step (fun k => impl_MostAlive.l0.eq_2 (k := k) ..) ?_
  simp only [if_neg (show ¬ ((i : Int) < (n : Int)) by omega)]
  exact Ev.now _
 | d + 1, i, a, hi => by
  have ih := mostI_go xs hx n hn d (i + 1) (mx a ((alv xs 0 i).length : Int)) (by omega)
  refine Ev.step (fun k => impl_MostAlive.l0.eq_2 (k := k) ..) ?_
  simp only [if_pos (show ((i : Int) < (n : Int)) by omega)]
  refine Ev.bind (alive_ev _ _ hx) ?_
  rw [wrap_up (by omega)]
  exact ih
theorem mostI_ev (a0 : ByteArray) (hs : a0.size ≤ 1048576) : Ev (fun k => impl_MostAlive.f k a0) (mostOf a0) := by
 obtain ⟨m, l, g, hm, hl⟩ := told_good a0
 have h1 := g.lvs_length
 have h2 := g.made
 unfold impl_MostAlive.f mostOf
 simp only [told_f a0 hs, Option.bind_some, hm]
 split
 ·simp only [lives_told g (by omega), Option.bind_some]
  exact mostI_go _ (by omega) _ (by omega) _ 0 0 (Nat.zero_add _)
 ·exact Ev.now _
end Go.Proofs.YtndjbnkmhpbnpaaGreatDoor.Pr
namespace Go.Proofs.YtndjbnkmhpbnpaaGreatDoor.Pr
open Go.RowKit Go.Proofs.YtndjbnkmhpbnpaaGreatDoorW.PrintWords Go.Proofs.YtndjbnkmhpbnpaaGreatDoorW.PrintLast Go.Proofs.YtndjbnkmhpbnpaaGreatDoorW.PrintMore
attribute [local go_sem] max2_int min2_int max_two min_two max_three min_three max_four min_four   -- for this text's walks alone
set_option linter.unusedVariables false
set_option linter.unusedSimpArgs false
def impl_LivesOf.f (a0 : ByteArray) : Option ((List (S31)) × Bool) := (impl_told.f a0).bind fun bt245 => (if bt245.2.2 = true then ((impl_lives.f bt245.1 bt245.2.1).bind fun t250 => (some (t250, true))) else (some (([] : List (S31)), false)))
set_option maxHeartbeats 8000000 in
set_option maxRecDepth 100000 in
theorem impl_LivesOf.calls (a0 : ByteArray) (r1 : List (S31)) (r2 : Bool) (w : World) (hLd : LaidW w) (h : impl_LivesOf.f a0 = some (r1, r2)) :
  Calls Tryz.prog 14 #[.string a0] w fun e w' => ∃ v0_ : Value, e = .returned (.tuple #[v0_, .bool r2]) ∧ Kd.R k31 31 w' w.heap.size (fun _ => True) v0_ r1 ∧ Below w.heap.size w w' := by
 have HB := Az.mk (Below.refl w.heap.size w)
 have HLd := Az.mk hLd
 clear hLd
 have H : ((impl_told.f a0).bind fun bt245 => (if bt245.2.2 = true then ((impl_lives.f bt245.1 bt245.2.1).bind fun t250 => (some (t250, true))) else (some (([] : List (S31)), false)))) = some (r1, r2) := h
 clear h
 replace H := Option.bind_eq_some_iff.mp H
 obtain ⟨⟨t245, t246, t247⟩, A20, H⟩ := H
 replace H : (if t247 = true then ((impl_lives.f t245 t246).bind fun t250 => (some (t250, true))) else (some (([] : List (S31)), false))) = some (r1, r2) := H
 have A2 := Az.mk A20
 clear A20
 by_cases c3 : t247 = true
 ·subst c3
  have H1 : ((impl_lives.f t245 t246).bind fun t250 => (some (t250, true))) = some (r1, r2) := by rw [if_pos rfl] at H; exact H
  clear H
  have H := H1
  clear H1
  replace H := Option.bind_eq_some_iff.mp H
  obtain ⟨t250, A40, H⟩ := H
  replace H : (some (t250, true)) = some (r1, r2) := H
  have A4 := Az.mk A40
  clear A40
  simp only [Option.some.injEq, Prod.mk.injEq] at H
  obtain ⟨rfl, rfl⟩ := H
  go_enter Tryz.func14, Tryz.ntmps14
  go_wp2_with (first | ((with_reducible refine gate_callee (f := 50) rfl ?_); refine goesL_ (some 9) rfl rfl Tryz.func50 (by kernel_rfl) rfl #[.string a0] rfl (by (try simp only [List.map_toArray, List.map_cons, List.map_nil]); first | done | rfl | (simp only [List.length_drop, List.length_take]; rfl)) ?_; (with_reducible refine (impl_told.calls a0 t245 t246 true _ (HLd.out.below (by repeat first|exact HB.out|apply bA|apply bN|apply bD)) A2.out).mono ?_); rintro e w5 ⟨v248, rfl, ho0, hb⟩; refine ⟨_, rfl, ?_⟩; have n0_ := Az.mk (Kd.R_lower ho0 (bZ (by repeat first|exact HB.out|apply bA|apply bN|apply bD))); have n1_ := Az.mk (bS (by repeat first|exact HB.out|apply bA|apply bN|apply bD) hb); clear HB; have HO249 := n0_; have HB := n1_; clear n0_ n1_; (try clear hb); (try clear hb2); (try clear hk); (try clear hi); (try clear ho0); obtain ⟨Ao6, co6, eo6⟩ := Kd.R_slice HO249.out; subst eo6) | ((with_reducible refine gate_callee (f := 51) rfl ?_); refine goesL_ (some 17) rfl rfl Tryz.func51 (by kernel_rfl) rfl #[.slice Ao6 t245.length co6, .int .i64 t246] rfl (by (try simp only [List.map_toArray, List.map_cons, List.map_nil]); first | done | rfl | (simp only [List.length_drop, List.length_take]; rfl)) ?_; (with_reducible refine (impl_lives.calls _ _ t245 t246 t250 _ ?side1 ?side2 A4.out).mono ?_); (case side1 => repeat (first | exact (Kd.R_reads' HO249.out).2.2 | (with_reducible refine Kd.C_alloc ?_ _) | (with_reducible refine Kd.C_drewN ?_ _) | (with_reducible refine Kd.C_drew ?_))); (case side2 => exact (Kd.R_reads' HO249.out).2.1); rintro e w7 ⟨v251, rfl, ho0, hb⟩; refine ⟨_, rfl, ?_⟩; have n0_ := Az.mk (Kd.Rb (by (with_reducible repeat first|apply Kd.Ra|apply Kd.Rn|apply Kd.Rw); exact HO249.out) hb); have n1_ := Az.mk (Kd.R_lower ho0 (bZ (by repeat first|exact HB.out|apply bA|apply bN|apply bD))); have n2_ := Az.mk (bS (by repeat first|exact HB.out|apply bA|apply bN|apply bD) hb); clear HO249; clear HB; have HO249 := n0_; have HO252 := n1_; have HB := n2_; clear n0_ n1_ n2_; (try clear hb); (try clear hb2); (try clear hk); (try clear hi); (try clear ho0)))
  go_ret2
  exact ⟨_, by first | rfl | (simp [errW_none, errW_some] <;> rfl) | (simp [*, errW_none, errW_some] <;> rfl), by (with_reducible repeat first|apply Kd.Ra|apply Kd.Rn|apply Kd.Rw); exact HO252.out, by repeat (first | (with_reducible first|exact HB.out|apply bA|apply bN|apply bD) | exact HB.out)⟩
 ·replace c3 := Bool.eq_false_iff.mpr c3
  subst c3
  have H1 : (some (([] : List (S31)), false)) = some (r1, r2) := by rw [if_neg (show ¬ (false = true) by decide)] at H; exact H
  clear H
  have H := H1
  clear H1
  simp only [Option.some.injEq, Prod.mk.injEq] at H
  obtain ⟨rfl, rfl⟩ := H
  go_enter Tryz.func14, Tryz.ntmps14
  go_wp2_with (first | ((with_reducible refine gate_callee (f := 50) rfl ?_); refine goesL_ (some 9) rfl rfl Tryz.func50 (by kernel_rfl) rfl #[.string a0] rfl (by (try simp only [List.map_toArray, List.map_cons, List.map_nil]); first | done | rfl | (simp only [List.length_drop, List.length_take]; rfl)) ?_; (with_reducible refine (impl_told.calls a0 t245 t246 false _ (HLd.out.below (by repeat first|exact HB.out|apply bA|apply bN|apply bD)) A2.out).mono ?_); rintro e w8 ⟨v248, rfl, ho0, hb⟩; refine ⟨_, rfl, ?_⟩; have n0_ := Az.mk (Kd.R_lower ho0 (bZ (by repeat first|exact HB.out|apply bA|apply bN|apply bD))); have n1_ := Az.mk (bS (by repeat first|exact HB.out|apply bA|apply bN|apply bD) hb); clear HB; have HO249 := n0_; have HB := n1_; clear n0_ n1_; (try clear hb); (try clear hb2); (try clear hk); (try clear hi); (try clear ho0)))
  go_ret2
  exact ⟨_, by first | rfl | (simp [errW_none, errW_some] <;> rfl) | (simp [*, errW_none, errW_some] <;> rfl), by first | exact Kd.R_nil _ _ _ _ _ | exact Kd.N_nil _ _ _ _ _ | exact Kd.V_nil _ _ _ _ _ | exact Kd.Q_nil _ _ _ _ _ | exact Kd.S_nil _ _ _ _ _, by repeat (first | (with_reducible first|exact HB.out|apply bA|apply bN|apply bD) | exact HB.out)⟩
end Go.Proofs.YtndjbnkmhpbnpaaGreatDoor.Pr
namespace Go.Proofs.YtndjbnkmhpbnpaaGreatDoor.Pr
open Go.RowKit Go.Proofs.YtndjbnkmhpbnpaaGreatDoorW.PrintWords Go.Proofs.YtndjbnkmhpbnpaaGreatDoorW.PrintLast Go.Proofs.YtndjbnkmhpbnpaaGreatDoorW.PrintMore
theorem ofLives_told (a0 : ByteArray) (hs : a0.size ≤ 1048576) : impl_LivesOf.f a0 = some (if (toldOf a0).2.2 = true then (lvs (toldOf a0).1, true) else ([], false)) := by
 obtain ⟨m, l, g, hm, hl⟩ := told_good a0
 unfold impl_LivesOf.f
 rw [told_f a0 hs, Option.bind_some]
 split
 ·rw [hm, lives_told g (by omega), Option.bind_some]
 ·rfl
end Go.Proofs.YtndjbnkmhpbnpaaGreatDoor.Pr
namespace Go.Proofs.YtndjbnkmhpbnpaaGreatDoor.Pr
open Go.RowKit Go.Proofs.YtndjbnkmhpbnpaaGreatDoorW.PrintWords Go.Proofs.YtndjbnkmhpbnpaaGreatDoorW.PrintLast Go.Proofs.YtndjbnkmhpbnpaaGreatDoorW.PrintMore
attribute [local go_sem] max2_int min2_int max_two min_two max_three min_three max_four min_four   -- for this text's walks alone
set_option linter.unusedVariables false
set_option linter.unusedSimpArgs false
def impl_IdleOf.l0 : Nat → Int → List (S31) → Int → Int → Option (Int)
 | 0, _, _, _, _ => none
 | k + 1, x5, x15, x16, x17 => if x17 < x16 then (if 0 ≤ x17 then (if x17 < (x15.length : Int) then (if ((rd_T31 x15 x17).f2) ≥ 0 then (impl_IdleOf.l0 k (wrap64 (x5 + (wrap64 ((wrap64 (((rd_T31 x15 x17).f2) - ((rd_T31 x15 x17).f1))) - 1)))) x15 x16 (wrap64 (x17 + 1))) else (impl_IdleOf.l0 k x5 x15 x16 (wrap64 (x17 + 1)))) else (none)) else (none)) else (some x5)
def impl_IdleOf.f (k : Nat) (a0 : ByteArray) : Option (Int) := (impl_LivesOf.f a0).bind fun bt253 => (if bt253.2 = true then (impl_IdleOf.l0 k 0 bt253.1 (bt253.1.length : Int) 0) else (some (-1)))
set_option maxHeartbeats 8000000 in
set_option maxRecDepth 100000 in
theorem impl_IdleOf.calls (k : Nat) (a0 : ByteArray) (r : Int) (w : World) (hLd : LaidW w) (h : impl_IdleOf.f k a0 = some r) :
  Calls Tryz.prog 12 #[.string a0] w fun e w' => e = .returned (.int .i64 r) ∧ Below w.heap.size w w' := by
 have hu31 := Tryz.underlying31
 have HB := Az.mk (Below.refl w.heap.size w)
 have HLd := Az.mk hLd
 clear hLd
 have H : ((impl_LivesOf.f a0).bind fun bt253 => (if bt253.2 = true then (impl_IdleOf.l0 k 0 bt253.1 (bt253.1.length : Int) 0) else (some (-1)))) = some r := h
 clear h
 replace H := Option.bind_eq_some_iff.mp H
 obtain ⟨⟨t253, t254⟩, A20, H⟩ := H
 replace H : (if t254 = true then (impl_IdleOf.l0 k 0 t253 (t253.length : Int) 0) else (some (-1))) = some r := H
 have A2 := Az.mk A20
 clear A20
 by_cases c3 : t254 = true
 ·subst c3
  have H1 : (impl_IdleOf.l0 k 0 t253 (t253.length : Int) 0) = some r := by rw [if_pos rfl] at H; exact H
  clear H
  have H := H1
  clear H1
  have H' := Az.mk H
  clear H
  go_enter Tryz.func12, Tryz.ntmps12
  go_wp2_with (first | ((with_reducible refine gate_callee (f := 14) rfl ?_); refine goesL_ (some 10) rfl rfl Tryz.func14 (by kernel_rfl) rfl #[.string a0] rfl (by (try simp only [List.map_toArray, List.map_cons, List.map_nil]); first | done | rfl | (simp only [List.length_drop, List.length_take]; rfl)) ?_; (with_reducible refine (impl_LivesOf.calls a0 t253 true _ (HLd.out.below (by repeat first|exact HB.out|apply bA|apply bN|apply bD)) A2.out).mono ?_); rintro e w4 ⟨v255, rfl, ho0, hb⟩; refine ⟨_, rfl, ?_⟩; have n0_ := Az.mk (Kd.R_lower ho0 (bZ (by repeat first|exact HB.out|apply bA|apply bN|apply bD))); have n1_ := Az.mk (bS (by repeat first|exact HB.out|apply bA|apply bN|apply bD) hb); clear HB; have HO256 := n0_; have HB := n1_; clear n0_ n1_; (try clear hb); (try clear hb2); (try clear hk); (try clear hi); (try clear ho0); obtain ⟨Ao5, co5, eo5⟩ := Kd.R_slice HO256.out; subst eo5))
  go_loopg [5, 17] k (fun kq v5 v17 w' => ∃ (x5_1 : Int) (x17_1 : Int), v5 = .int .i64 x5_1 ∧ v17 = .int .i64 x17_1 ∧ Az (impl_IdleOf.l0 kq x5_1 t253 (t253.length : Int) x17_1 = some r) ∧ Az (kq ≤ k) ∧ Az (Kd.R k31 31 w' w.heap.size (fun _ => True) (.slice Ao5 t253.length co5) t253) ∧ Az (Below w.heap.size w w'))
  case atStart => exact ⟨(0), (0), (by first | rfl | (simp; done) | (simp [*]; done)), (by first | rfl | (simp; done) | (simp [*]; done)), H', ⟨Nat.le_refl _⟩, ⟨by (with_reducible repeat first|apply Kd.Ra|apply Kd.Rn|apply Kd.Rw); exact HO256.out⟩, ⟨by repeat (first | (with_reducible first|exact HB.out|apply bA|apply bN|apply bD) | exact HB.out)⟩⟩
  case round =>
   clear H'
   try clear c1
   try clear p2
   try clear c3
   obtain ⟨x5_1, x17_1, rfl, rfl, HA, HK1, HO_15, HB⟩ := hrel
   cases gk with
   | zero => exact absurd HA.out (by simp [impl_IdleOf.l0])
   | succ k1 =>
    have H := HA.out
    clear HA
    simp only [impl_IdleOf.l0] at H
    by_cases c6 : x17_1 < (t253.length : Int)
    ·rw [if_pos c6] at H
     have c6b0 : decide (x17_1 < (t253.length : Int)) = true := decide_eq_true c6
     clear c6
     by_cases c7 : 0 ≤ x17_1
     ·rw [if_pos c7] at H
      have c7b0 : decide (0 ≤ x17_1) = true := decide_eq_true c7
      clear c7
      by_cases c8 : x17_1 < (t253.length : Int)
      ·rw [if_pos c8] at H
       have c8b0 : decide (x17_1 < (t253.length : Int)) = true := decide_eq_true c8
       clear c8
       by_cases c9 : ((rd_T31 t253 x17_1).f2) ≥ 0
       ·rw [if_pos c9] at H
        have c9b0 : decide (0 ≤ ((rd_T31 t253 x17_1).f2)) = true := decide_eq_true c9
        clear c9
        have H' := Az.mk H
        clear H
        have p257 : 0 ≤ (x17_1 : Int) := of_decide_eq_true (by first|(with_reducible assumption)|assumption)
        have q257 : x17_1 < (t253.length : Int) := of_decide_eq_true (by first|(with_reducible assumption)|assumption)
        obtain ⟨ad257, e257, hx257_0, hx257_1, hx257_2⟩ := at_T31 (Kd.R_reads' HO_15.out).2.2 x17_1 p257 q257
        cases e257
        replace p257 := eq_true p257
        replace q257 := eq_true q257
        go_wp2_with (first | ((with_reducible refine gate_dst (N := 7) rfl ?_); refine box_event ?hg (N := 7) ?hd (cs := #[.int .i64 0, .int .i64 0, .int .i64 0]) (t := 31) ?hr ?_; (case hd => rfl); (case hg => rfl); (case hr => first | (go_simp; done) | (go_simp; rfl)); intro gb258 hg w10 hbox hb; have n0_ := Az.mk (Kd.Rb (Kd.R_elderB (by (with_reducible repeat first|apply Kd.Ra|apply Kd.Rn|apply Kd.Rw); exact HO_15.out) gb258 (Nat.le_of_eq hg.symm)) hb); have n1_ := Az.mk (bS (by repeat first|exact HB.out|apply bA|apply bN|apply bD) hb); have n2_ := Az.mk (hbox); have n3_ := Az.mk ((by rw [hg]; exact (bZ (by repeat first|exact HB.out|apply bA|apply bN|apply bD)) : w.heap.size ≤ gb258)); have n4_ := Az.mk ((by rw [hg]; exact (bZ (by repeat first|exact HB.out|apply bA|apply bN|apply bD)) : w.heap.size ≤ gb258)); clear HO_15; clear HB; have HO_15 := n0_; have HB := n1_; have BK258 := n2_; have GW258 := n3_; have GE258 := n4_; clear n0_ n1_ n2_ n3_ n4_; clear hb hbox hg; have hcz11_0 : w10.cell? ⟨gb258, 0, none⟩ = some (.int .i64 0) := (blk_cell BK258.out 0).trans rfl; have hcz11_1 : w10.cell? ⟨gb258, 1, none⟩ = some (.int .i64 0) := (blk_cell BK258.out 1).trans rfl; have hcz11_2 : w10.cell? ⟨gb258, 2, none⟩ = some (.int .i64 0) := (blk_cell BK258.out 2).trans rfl; have hfz11_0 := blk_frozen BK258.out 0; have hfz11_1 := blk_frozen BK258.out 1; have hfz11_2 := blk_frozen BK258.out 2))
        go_roundg k1
        case measure => have := HK1.out; omega
        case rel => exact ⟨(wrap64 (x5_1 + (wrap64 ((wrap64 (((rd_T31 t253 x17_1).f2) - ((rd_T31 t253 x17_1).f1))) - 1)))), (wrap64 (x17_1 + 1)), (by first | rfl | (simp; done) | (simp [*]; done)), (by first | rfl | (simp; done) | (simp [*]; done)), H', ⟨by have := HK1.out; omega⟩, ⟨by (with_reducible repeat first|apply Kd.Ra|apply Kd.Rn|apply Kd.Rw); exact Kd.R_mono (Kd.R_far (p := ⟨gb258, 2, none⟩) (Kd.R_far (p := ⟨gb258, 1, none⟩) (Kd.R_far (p := ⟨gb258, 0, none⟩) (Kd.R_mono HO_15.out (fun k_ hk => (⟨hk, hk.2⟩ : _ ∧ k_ ≠ gb258))) (fun _ hk => hk.2) (.int .i64 ((rd_T31 t253 x17_1).f0))) (fun _ hk => hk.2) (.int .i64 ((rd_T31 t253 x17_1).f1))) (fun _ hk => hk.2) (.int .i64 ((rd_T31 t253 x17_1).f2))) (fun _ hk => trivial)⟩, ⟨by repeat (first | (with_reducible first|exact HB.out|apply bA|apply bN|apply bD | refine below_set ?_ GE258.out) | exact HB.out)⟩⟩
       ·rw [if_neg c9] at H
        have c9b0 : decide (0 ≤ ((rd_T31 t253 x17_1).f2)) = false := decide_eq_false c9
        clear c9
        have H' := Az.mk H
        clear H
        have p257 : 0 ≤ (x17_1 : Int) := of_decide_eq_true (by first|(with_reducible assumption)|assumption)
        have q257 : x17_1 < (t253.length : Int) := of_decide_eq_true (by first|(with_reducible assumption)|assumption)
        obtain ⟨ad257, e257, hx257_0, hx257_1, hx257_2⟩ := at_T31 (Kd.R_reads' HO_15.out).2.2 x17_1 p257 q257
        cases e257
        replace p257 := eq_true p257
        replace q257 := eq_true q257
        go_wp2_with (first | ((with_reducible refine gate_dst (N := 7) rfl ?_); refine box_event ?hg (N := 7) ?hd (cs := #[.int .i64 0, .int .i64 0, .int .i64 0]) (t := 31) ?hr ?_; (case hd => rfl); (case hg => rfl); (case hr => first | (go_simp; done) | (go_simp; rfl)); intro gb258 hg w12 hbox hb; have n0_ := Az.mk (Kd.Rb (Kd.R_elderB (by (with_reducible repeat first|apply Kd.Ra|apply Kd.Rn|apply Kd.Rw); exact HO_15.out) gb258 (Nat.le_of_eq hg.symm)) hb); have n1_ := Az.mk (bS (by repeat first|exact HB.out|apply bA|apply bN|apply bD) hb); have n2_ := Az.mk (hbox); have n3_ := Az.mk ((by rw [hg]; exact (bZ (by repeat first|exact HB.out|apply bA|apply bN|apply bD)) : w.heap.size ≤ gb258)); have n4_ := Az.mk ((by rw [hg]; exact (bZ (by repeat first|exact HB.out|apply bA|apply bN|apply bD)) : w.heap.size ≤ gb258)); clear HO_15; clear HB; have HO_15 := n0_; have HB := n1_; have BK258 := n2_; have GW258 := n3_; have GE258 := n4_; clear n0_ n1_ n2_ n3_ n4_; clear hb hbox hg; have hcz13_0 : w12.cell? ⟨gb258, 0, none⟩ = some (.int .i64 0) := (blk_cell BK258.out 0).trans rfl; have hcz13_1 : w12.cell? ⟨gb258, 1, none⟩ = some (.int .i64 0) := (blk_cell BK258.out 1).trans rfl; have hcz13_2 : w12.cell? ⟨gb258, 2, none⟩ = some (.int .i64 0) := (blk_cell BK258.out 2).trans rfl; have hfz13_0 := blk_frozen BK258.out 0; have hfz13_1 := blk_frozen BK258.out 1; have hfz13_2 := blk_frozen BK258.out 2))
        go_roundg k1
        case measure => have := HK1.out; omega
        case rel => exact ⟨(x5_1), (wrap64 (x17_1 + 1)), (by first | rfl | (simp; done) | (simp [*]; done)), (by first | rfl | (simp; done) | (simp [*]; done)), H', ⟨by have := HK1.out; omega⟩, ⟨by (with_reducible repeat first|apply Kd.Ra|apply Kd.Rn|apply Kd.Rw); exact Kd.R_mono (Kd.R_far (p := ⟨gb258, 2, none⟩) (Kd.R_far (p := ⟨gb258, 1, none⟩) (Kd.R_far (p := ⟨gb258, 0, none⟩) (Kd.R_mono HO_15.out (fun k_ hk => (⟨hk, hk.2⟩ : _ ∧ k_ ≠ gb258))) (fun _ hk => hk.2) (.int .i64 ((rd_T31 t253 x17_1).f0))) (fun _ hk => hk.2) (.int .i64 ((rd_T31 t253 x17_1).f1))) (fun _ hk => hk.2) (.int .i64 ((rd_T31 t253 x17_1).f2))) (fun _ hk => trivial)⟩, ⟨by repeat (first | (with_reducible first|exact HB.out|apply bA|apply bN|apply bD | refine below_set ?_ GE258.out) | exact HB.out)⟩⟩
      ·rw [if_neg c8] at H
       exact absurd H (by simp)
     ·rw [if_neg c7] at H
      exact absurd H (by simp)
    ·rw [if_neg c6] at H
     have c6b0 : decide (x17_1 < (t253.length : Int)) = false := decide_eq_false c6
     clear c6
     obtain rfl := Option.some.inj H
     go_wp2
     go_ret
     exact ⟨by first | rfl | (simp [errW_none, errW_some] <;> rfl) | (simp [*, errW_none, errW_some] <;> rfl), by repeat (first | (with_reducible first|exact HB.out|apply bA|apply bN|apply bD) | exact HB.out)⟩
 ·replace c3 := Bool.eq_false_iff.mpr c3
  subst c3
  have H1 : (some (-1)) = some r := by rw [if_neg (show ¬ (false = true) by decide)] at H; exact H
  clear H
  have H := H1
  clear H1
  obtain rfl := Option.some.inj H
  go_enter Tryz.func12, Tryz.ntmps12
  go_wp2_with (first | ((with_reducible refine gate_callee (f := 14) rfl ?_); refine goesL_ (some 10) rfl rfl Tryz.func14 (by kernel_rfl) rfl #[.string a0] rfl (by (try simp only [List.map_toArray, List.map_cons, List.map_nil]); first | done | rfl | (simp only [List.length_drop, List.length_take]; rfl)) ?_; (with_reducible refine (impl_LivesOf.calls a0 t253 false _ (HLd.out.below (by repeat first|exact HB.out|apply bA|apply bN|apply bD)) A2.out).mono ?_); rintro e w14 ⟨v255, rfl, ho0, hb⟩; refine ⟨_, rfl, ?_⟩; have n0_ := Az.mk (Kd.R_lower ho0 (bZ (by repeat first|exact HB.out|apply bA|apply bN|apply bD))); have n1_ := Az.mk (bS (by repeat first|exact HB.out|apply bA|apply bN|apply bD) hb); clear HB; have HO256 := n0_; have HB := n1_; clear n0_ n1_; (try clear hb); (try clear hb2); (try clear hk); (try clear hi); (try clear ho0)))
  go_ret
  exact ⟨by first | rfl | (simp [errW_none, errW_some] <;> rfl) | (simp [*, errW_none, errW_some] <;> rfl), by repeat (first | (with_reducible first|exact HB.out|apply bA|apply bN|apply bD) | exact HB.out)⟩
end Go.Proofs.YtndjbnkmhpbnpaaGreatDoor.Pr
namespace Go.Proofs.YtndjbnkmhpbnpaaGreatDoor.Pr
open Go.RowKit Go.Proofs.YtndjbnkmhpbnpaaGreatDoorW.PrintWords Go.Proofs.YtndjbnkmhpbnpaaGreatDoorW.PrintLast Go.Proofs.YtndjbnkmhpbnpaaGreatDoorW.PrintMore
def idl : List S31 → Int → Int
 | [], a => a
 | L :: r, a => if L.f2 ≥ 0 then idl r (a + L.f2 - L.f1 - 1) else idl r a
def Small (xs : List S31) : Prop := ∀ L ∈ xs, 0 ≤ L.f1 ∧ L.f1 ≤ 600 ∧ -1 ≤ L.f2 ∧ L.f2 ≤ 600
theorem Good.small {o : List S55} {m : Nat} {l : List Int} (g : Good o m l) (hl : o.length ≤ 600) : Small (lvs o) := by
 intro L hL
 obtain ⟨j, hj, e⟩ := List.getElem_of_mem hL
 have K := g.life j L (by rw [List.getElem?_eq_getElem hj, e])
 have := K.born; have := K.used; have := K.un; have := K.dn; have := K.d1
 omega
theorem idleS_go (xs : List S31) (hx : xs.length ≤ 600) (hsm : Small xs) : ∀ (d i : Nat) (a : Int), i + d = xs.length → -(1000 * i) ≤ a → a ≤ 1000 * i →
  Ev (fun k => spec_IdleOf.l0 k a xs (xs.length : Int) (i : Int)) (idl (xs.drop i) a)
 | 0, i, a, hi, h1, h2 => by
  refine Ev.step (fun k => spec_IdleOf.l0.eq_2 (k := k) ..) ?_
  simp only [if_neg (show ¬ ((i : Int) < (xs.length : Int)) by omega)]
  rw [List.drop_of_length_le (by omega), idl]
  exact Ev.now _
 | d + 1, i, a, hi, h1, h2 => by
  have hlt : i < xs.length := by omega
  have hL := hsm _ (List.getElem_mem hlt)
  rw [List.drop_eq_getElem_cons hlt, idl]
  refine Ev.step (fun k => spec_IdleOf.l0.eq_2 (k := k) ..) ?_
  simp only [if_pos (show ((i : Int) < (xs.length : Int)) by omega), if_pos (show (0 : Int) ≤ (i : Int) by omega), rd48_at hlt, wrap_up (show i ≤ 1000000000 by omega)]
  split
  ·rw [wrap_small (n := a + xs[i].f2) (by omega) (by omega), wrap_small (n := a + xs[i].f2 - xs[i].f1) (by omega) (by omega), wrap_small (n := a + xs[i].f2 - xs[i].f1 - 1) (by omega) (by omega)]
   exact idleS_go xs hx hsm d (i + 1) _ (by omega) (by omega) (by omega)
  ·exact idleS_go xs hx hsm d (i + 1) _ (by omega) (by omega) (by omega)
theorem idleI_go (xs : List S31) (hx : xs.length ≤ 600) (hsm : Small xs) : ∀ (d i : Nat) (a : Int), i + d = xs.length → -(1000 * i) ≤ a → a ≤ 1000 * i →
  Ev (fun k => impl_IdleOf.l0 k a xs (xs.length : Int) (i : Int)) (idl (xs.drop i) a)
 | 0, i, a, hi, h1, h2 => by
  refine Ev.step (fun k => impl_IdleOf.l0.eq_2 (k := k) ..) ?_
  simp only [if_neg (show ¬ ((i : Int) < (xs.length : Int)) by omega)]
  rw [List.drop_of_length_le (by omega), idl]
  exact Ev.now _
 | d + 1, i, a, hi, h1, h2 => by
  have hlt : i < xs.length := by omega
  have hL := hsm _ (List.getElem_mem hlt)
  rw [List.drop_eq_getElem_cons hlt, idl]
  refine Ev.step (fun k => impl_IdleOf.l0.eq_2 (k := k) ..) ?_
  simp only [if_pos (show ((i : Int) < (xs.length : Int)) by omega), if_pos (show (0 : Int) ≤ (i : Int) by omega), rd48_at hlt, wrap_up (show i ≤ 1000000000 by omega)]
  split
  ·rw [wrap_small (n := xs[i].f2 - xs[i].f1) (by omega) (by omega), wrap_small (n := xs[i].f2 - xs[i].f1 - 1) (by omega) (by omega), wrap_small (n := a + (xs[i].f2 - xs[i].f1 - 1)) (by omega) (by omega), show a + (xs[i].f2 - xs[i].f1 - 1) = a + xs[i].f2 - xs[i].f1 - 1 by omega]
   exact idleI_go xs hx hsm d (i + 1) _ (by omega) (by omega) (by omega)
  ·exact idleI_go xs hx hsm d (i + 1) _ (by omega) (by omega) (by omega)
def idleOf (a0 : ByteArray) : Int := if (toldOf a0).2.2 = true then idl (lvs (toldOf a0).1) 0 else -1
theorem idleS_ev (a0 : ByteArray) (hs : a0.size ≤ 1048576) : Ev (fun k => spec_IdleOf.f k a0) (idleOf a0) := by
 obtain ⟨m, l, g, hm, hl⟩ := told_good a0
 have h1 := g.lvs_length
 have h2 := g.made
 unfold spec_IdleOf.f idleOf
 refine Ev.bind (l7Read_ev a0 hs) ?_
 dsimp only
 split
 ·exact Ev.bind (lives_ev g (by omega)) (idleS_go _ (by omega) (g.small hl) _ 0 0 (Nat.zero_add _) (by omega) (by omega))
 ·exact Ev.now _
theorem idleI_ev (a0 : ByteArray) (hs : a0.size ≤ 1048576) : Ev (fun k => impl_IdleOf.f k a0) (idleOf a0) := by
 obtain ⟨m, l, g, hm, hl⟩ := told_good a0
 have h1 := g.lvs_length
 have h2 := g.made
 unfold impl_IdleOf.f idleOf
 simp only [ofLives_told a0 hs, Option.bind_some]
 split
 ·simp only [if_pos]
  exact idleI_go _ (by omega) (g.small hl) _ 0 0 (Nat.zero_add _) (by omega) (by omega)
 ·simp only [Bool.false_eq_true, if_false]
  exact Ev.now _
end Go.Proofs.YtndjbnkmhpbnpaaGreatDoor.Pr
namespace Go.Proofs.YtndjbnkmhpbnpaaGreatDoor.Pr
open Go.RowKit Go.Proofs.YtndjbnkmhpbnpaaGreatDoorW.PrintWords Go.Proofs.YtndjbnkmhpbnpaaGreatDoorW.PrintLast Go.Proofs.YtndjbnkmhpbnpaaGreatDoorW.PrintMore
set_option linter.unusedVariables false
set_option linter.unusedSimpArgs false
def Act1 (e : S55) : Bool := decide (e.f0.toList ≠ [45])
theorem early_act (xs : List S31) : ∀ (o : List S55) (i : Int), (early xs o i).filter Act1 = o.filter Act1
 | [], i => rfl
 | a :: r, i => by
  rw [early, List.filter_append, early_act xs r]
  unfold early1
  by_cases ha : a.f0.toList = [45]
  ·have h1 : Act1 a = false := by unfold Act1; rw [ha]; decide
   rw [if_pos ha, List.filter_cons_of_neg (by rw [h1]; decide)]
   rfl
  ·have h1 : Act1 a = true := by unfold Act1; exact decide_eq_true ha
   have h2 : Act1 (⟨bs [45], a.f1⟩ : S55) = false := by unfold Act1; rw [bs_toList]; decide
   rw [if_neg ha, List.filter_cons_of_pos h1]
   split
   ·rw [List.filter_cons_of_pos h1, List.filter_cons_of_neg (by rw [h2]; decide)]
    rfl
   ·rw [List.filter_cons_of_pos h1]
    rfl
theorem Good.gone {o : List S55} {m : Nat} {l : List Int} (g : Good o m l) : ∀ e ∈ o, e.f0.toList = [45] → e.f1 ∉ l := by
 induction g with
 | nil => intro e he; cases he
 | make g hs ih =>
  intro e he h45 hl
  rcases List.mem_append.1 he with he | he
  ·rcases List.mem_append.1 hl with hl | hl
   ·exact ih e he h45 hl
   ·have := g.values e he
    have := List.mem_singleton.1 hl
    omega
  ·have := List.mem_singleton.1 he
   subst this
   rw [hs] at h45
   exact absurd h45 (by decide)
 | use g hs hn ih =>
  intro e he h45 hl
  rcases List.mem_append.1 he with he | he
  ·exact ih e he h45 hl
  ·have := List.mem_singleton.1 he
   subst this
   rw [hs] at h45
   exact absurd h45 (by decide)
 | kill g hs hn ih =>
  intro e he h45 hl
  have hl' := List.mem_filter.1 hl
  rcases List.mem_append.1 he with he | he
  ·exact ih e he h45 hl'.1
  ·have := List.mem_singleton.1 he
   subst this
   simpa using hl'.2
theorem Good.ends_once {o : List S55} {m : Nat} {l : List Int} (g : Good o m l) : (o.filter (fun e => !Act1 e)).Nodup := by
 induction g with
 | nil => exact List.nodup_nil
 | make g hs ih =>
  rw [List.filter_append, List.filter_cons_of_neg (by unfold Act1; rw [hs]; decide)]
  simpa using ih
 | use g hs hn ih =>
  rw [List.filter_append, List.filter_cons_of_neg (by unfold Act1; rw [hs]; decide)]
  simpa using ih
 | @kill o m l s n g hs hn ih =>
  rw [List.filter_append, List.filter_cons_of_pos (by unfold Act1; rw [hs]; decide), List.filter_nil]
  rw [List.nodup_append]
  refine ⟨ih, by simp, fun a ha b hb => ?_⟩
  have := List.mem_singleton.1 hb
  subst this
  rintro rfl
  have hm := List.mem_filter.1 ha
  exact g.gone _ hm.1 hs hn
theorem Good.early_perm {o : List S55} {m : Nat} {l : List Int} (g : Good o m l) (ht : ∀ e ∈ o, Tidy e) : (Pr.early (lvs o) o 0).Perm o := by
 obtain ⟨l', gE⟩ := g.early_all
 have h1 : ((Pr.early (lvs o) o 0).filter (fun e => !Act1 e)).Perm (o.filter (fun e => !Act1 e)) := by
  refine (List.perm_ext_iff_of_nodup gE.ends_once g.ends_once).2 (fun x => ?_)
  rw [List.mem_filter, List.mem_filter]
  constructor
  ·rintro ⟨hx, ha⟩
   have h45 : x.f0.toList = [45] := by
    unfold Act1 at ha
    simpa using ha
   refine ⟨?_, ha⟩
   obtain ⟨p, hp⟩ := List.mem_iff_getElem?.1 hx
   obtain ⟨q, e', _, _, _, _, h5⟩ := early_minus _ _ _ _ _ hp h45
   have hv := gE.values _ hx
   obtain ⟨j, hj, _, S, K⟩ := g.lv_at hv.1 hv.2
   obtain ⟨d, hd, e, hd1, hd2, hd3⟩ := S.dead h5
   have : e = x := by
    have hb1 := bs_of hd2
    have hb2 := bs_of h45
    cases e; cases x
    simp_all
   rw [← this]
   exact List.mem_of_getElem? hd1
  ·rintro ⟨hx, ha⟩
   have h45 : x.f0.toList = [45] := by
    unfold Act1 at ha
    simpa using ha
   refine ⟨?_, ha⟩
   obtain ⟨p, hp⟩ := List.mem_iff_getElem?.1 hx
   have hv := g.values _ hx
   obtain ⟨j, hj, _, S, K⟩ := g.lv_at hv.1 hv.2
   have hd := S.died p _ hp hj h45
   obtain ⟨u, hu, e, hu1, hu2, hu3⟩ := S.used
   refine (early_mem _ _ _ _).2 ⟨u, e, hu1, ?_⟩
   unfold early1
   rw [if_neg hu2, if_pos ⟨by rw [hu3, ← hj, hu]; omega, by rw [hu3, ← hj]; omega⟩]
   have : x = ⟨bs [45], e.f1⟩ := by
    have hb := bs_of h45
    rw [← hb, hu3, ← hj]
   rw [this]
   simp
 have h2 := (List.filter_append_perm Act1 (Pr.early (lvs o) o 0)).symm
 have h3 := List.filter_append_perm Act1 o
 rw [early_act] at h2
 exact h2.trans ((List.Perm.append_left _ h1).trans h3)
theorem jn_size : ∀ ps : List (List UInt8), ps ≠ [] → (jn ps).length + 1 = (ps.map (fun p => p.length + 1)).sum
 | [], h => absurd rfl h
 | [p], _ => by simp [jn_one]
 | p :: q :: r, _ => by
  have ih := jn_size (q :: r) (by simp)
  rw [jn_cons]
  simp only [List.map_cons, List.sum_cons, List.length_append, List.length_singleton] at ih ⊢
  omega
theorem txt_perm {a b : List S55} (h : a.Perm b) : (txt (a.map piece)).size = (txt (b.map piece)).size := by
 by_cases hb : b = []
 ·subst hb
  rw [h.eq_nil]
 ·have ha : a ≠ [] := fun e => hb (by rw [e] at h; exact h.symm.eq_nil)
  unfold txt
  rw [if_neg (by simpa using ha), if_neg (by simpa using hb), bs_size, bs_size]
  have h1 := jn_size (a.map piece) (by simpa using ha)
  have h2 := jn_size (b.map piece) (by simpa using hb)
  have h3 := ((h.map piece).map (fun p => p.length + 1)).sum_nat
  omega
theorem mx_le {a b k : Int} : mx a b ≤ k ↔ a ≤ k ∧ b ≤ k := by unfold mx; split <;> omega
theorem mst_le (xs : List S31) (K : Int) : ∀ (d : Nat) (i a : Int), mst xs d i a ≤ K ↔ a ≤ K ∧ ∀ j : Nat, j < d → ((alv xs 0 (i + j)).length : Int) ≤ K
 | 0, i, a => by simp [mst]
 | d + 1, i, a => by
  rw [mst, mst_le xs K d (i + 1), mx_le]
  constructor
  ·rintro ⟨⟨h1, h2⟩, h3⟩
   refine ⟨h1, fun j hj => ?_⟩
   cases j with
   | zero => simpa using h2
   | succ j =>
    have := h3 j (by omega)
    rw [show i + ((j + 1 : Nat) : Int) = i + 1 + (j : Int) by omega]
    exact this
  ·rintro ⟨h1, h2⟩
   refine ⟨⟨h1, by have := h2 0 (by omega); simpa using this⟩, fun j hj => ?_⟩
   have := h2 (j + 1) (by omega)
   rw [show i + ((j + 1 : Nat) : Int) = i + 1 + (j : Int) by omega] at this
   exact this
def Most (o : List S55) (K : Int) : Prop := 0 ≤ K ∧ ∀ (i m : Nat) (l : List Int), i ≤ o.length → Good (o.take i) m l → (l.length : Int) ≤ K
theorem Good.most {o : List S55} {m : Nat} {l : List Int} (g : Good o m l) (K : Int) : mst (lvs o) o.length 0 0 ≤ K ↔ Most o K := by
 rw [mst_le]
 constructor
 ·rintro ⟨h0, h⟩
  refine ⟨h0, fun i m' l' hi g' => ?_⟩
  cases i with
  | zero =>
   rw [List.take_zero] at g'
   obtain ⟨rfl, rfl⟩ := g'.uniq .nil
   simpa using h0
  | succ i =>
   have := h i (by omega)
   have ha := g.alv_take (i + 1) m' l' hi g'
   rw [show ((i + 1 : Nat) : Int) - 1 = 0 + (i : Int) by omega] at ha
   rw [ha] at this
   exact this
 ·rintro ⟨h0, h⟩
  refine ⟨h0, fun j hj => ?_⟩
  obtain ⟨e, m1, l1, h1, h2, h3, h4, h5⟩ := g.step j hj
  have hex : ∃ m' l', Good (o.take (j + 1)) m' l' := by
   rcases h5 with ⟨_, _, _, g2⟩ | ⟨_, _, g2⟩ | ⟨_, _, g2⟩ <;> exact ⟨_, _, g2⟩
  obtain ⟨m', l', g'⟩ := hex
  have ha := g.alv_take (j + 1) m' l' (by omega) g'
  rw [show ((j + 1 : Nat) : Int) - 1 = 0 + (j : Int) by omega] at ha
  rw [ha]
  exact h (j + 1) m' l' (by omega) g'
theorem Good.last_step {o : List S55} {e : S55} {m : Nat} {l : List Int} (g : Good (o ++ [e]) m l) : ∃ m0 l0, Good o m0 l0 ∧ l.length ≤ l0.length + 1 ∧ (e.f0.toList ≠ [43] → l.length ≤ l0.length) := by
 obtain ⟨e', m1, l1, h1, h2, h3, h4, h5⟩ := g.step o.length (by simp)
 have he : e = e' := by
  have := get_end o e
  rw [h1] at this
  exact (Option.some.inj this).symm
 subst he
 have t1 : (o ++ [e]).take o.length = o := take_end.1
 have t2 : (o ++ [e]).take (o.length + 1) = o ++ [e] := take_end.2.1
 rw [t1] at h3
 refine ⟨m1, l1, h3, ?_⟩
 rw [t2] at h5
 rcases h5 with ⟨hs, _, _, g2⟩ | ⟨hs, _, g2⟩ | ⟨hs, _, g2⟩
 ·obtain ⟨rfl, rfl⟩ := g.uniq g2
  exact ⟨by simp, fun h => absurd hs h⟩
 ·obtain ⟨rfl, rfl⟩ := g.uniq g2
  exact ⟨by omega, fun _ => Nat.le_refl _⟩
 ·obtain ⟨rfl, rfl⟩ := g.uniq g2
  have := List.length_filter_le (fun y => y != e.f1) l1
  exact ⟨by omega, fun _ => this⟩
theorem Good.early_most_go {o : List S55} {m : Nat} {l : List Int} (g : Good o m l) {K : Int} (hK : Most o K) : ∀ i : Nat, i ≤ o.length → ∀ (p m' : Nat) (l' : List Int), p ≤ (Pr.early (lvs o) (o.take i) 0).length → Good ((Pr.early (lvs o) (o.take i) 0).take p) m' l' → (l'.length : Int) ≤ K
 | 0, _, p, m', l', hp, g' => by
  rw [List.take_zero, Pr.early, List.take_nil] at g'
  obtain ⟨rfl, rfl⟩ := g'.uniq .nil
  simpa using hK.1
 | i + 1, hi, p, m', l', hp, g' => by
  obtain ⟨e, m1, l1, h1, h2, h3, h4, h5⟩ := g.step i (by omega)
  have hex : ∃ m2 l2, Good (o.take (i + 1)) m2 l2 ∧ (e.f0.toList = [43] → l2.length = l1.length + 1) ∧ (e.f0.toList = [46] → l2.length = l1.length) := by
   rcases h5 with ⟨hs, _, _, g2⟩ | ⟨hs, _, g2⟩ | ⟨hs, _, g2⟩
   ·exact ⟨_, _, g2, fun _ => by simp, fun h => by rw [hs] at h; exact absurd h (by decide)⟩
   ·exact ⟨_, _, g2, fun h => by rw [hs] at h; exact absurd h (by decide), fun _ => rfl⟩
   ·exact ⟨_, _, g2, fun h => by rw [hs] at h; exact absurd h (by decide), fun h => by rw [hs] at h; exact absurd h (by decide)⟩
  obtain ⟨m2, l2, g2, hl43, hl46⟩ := hex
  have hk2 := hK.2 (i + 1) m2 l2 hi g2
  have ge1 := g.early i m1 l1 (by omega) h3
  have ge2 := g.early (i + 1) m2 l2 hi g2
  rw [early_take (by omega) h2] at g' hp ge2
  have hwhole : ∀ q, (Pr.early (lvs o) (o.take i) 0 ++ early1 (lvs o) e i).length ≤ q → p = q → (l'.length : Int) ≤ K := by
   intro q hq hpq
   rw [List.take_of_length_le (by omega)] at g'
   obtain ⟨rfl, rfl⟩ := g'.uniq ge2
   have := List.length_filter_le (Want (lvs o) (i + 1)) l2
   omega
  by_cases hpl : p ≤ (Pr.early (lvs o) (o.take i) 0).length
  ·rw [List.take_append_of_le_length hpl] at g'
   exact Good.early_most_go g hK i (by omega) p m' l' hpl g'
  ·rw [List.length_append] at hp
   by_cases h45 : e.f0.toList = [45]
   ·have hz : early1 (lvs o) e i = [] := by unfold early1; rw [if_pos h45]
    rw [hz] at hp
    simp at hp
    omega
   ·by_cases hC : (rd_T31 (lvs o) (e.f1 - 1)).f1 = (i : Int) ∧ (rd_T31 (lvs o) (e.f1 - 1)).f2 ≥ 0
    ·have hz : early1 (lvs o) e i = [e, ⟨bs [45], e.f1⟩] := by unfold early1; rw [if_neg h45, if_pos hC]
     rw [hz] at hp
     simp only [List.length_cons, List.length_nil] at hp
     by_cases hp2 : p = (Pr.early (lvs o) (o.take i) 0).length + 2
     ·exact hwhole p (by rw [hz]; simp; omega) rfl
     ·have hp1 : p = (Pr.early (lvs o) (o.take i) 0).length + 1 := by omega
      have ht : (Pr.early (lvs o) (o.take i) 0 ++ early1 (lvs o) e i).take p = Pr.early (lvs o) (o.take i) 0 ++ [e] := by
       rw [hz, show Pr.early (lvs o) (o.take i) 0 ++ [e, ⟨bs [45], e.f1⟩] = (Pr.early (lvs o) (o.take i) 0 ++ [e]) ++ [⟨bs [45], e.f1⟩] by simp, List.take_append_of_le_length (by rw [List.length_append, List.length_singleton]; omega), List.take_of_length_le (by rw [List.length_append, List.length_singleton]; omega)]
      rw [ht] at g'
      obtain ⟨m0, l0, g0, q1, q2⟩ := g'.last_step
      obtain ⟨rfl, rfl⟩ := g0.uniq ge1
      have hf := List.length_filter_le (Want (lvs o) i) l1
      rcases h5 with ⟨hs, _⟩ | ⟨hs, _⟩ | ⟨hs, _⟩
      ·have := hl43 hs
       omega
      ·have := hl46 hs
       have := q2 (by rw [hs]; decide)
       omega
      ·exact absurd hs h45
    ·have hz : early1 (lvs o) e i = [e] := by unfold early1; rw [if_neg h45, if_neg hC]
     rw [hz] at hp
     simp only [List.length_cons, List.length_nil] at hp
     exact hwhole p (by rw [hz]; simp; omega) rfl
theorem Good.early_most {o : List S55} {m : Nat} {l : List Int} (g : Good o m l) : mst (lvs (Pr.early (lvs o) o 0)) (Pr.early (lvs o) o 0).length 0 0 ≤ mst (lvs o) o.length 0 0 := by
 obtain ⟨l', gE⟩ := g.early_all
 have hK := (g.most _).1 (Int.le_refl _)
 refine (gE.most _).2 ⟨hK.1, fun i m' l' hi g' => ?_⟩
 have h := g.early_most_go hK o.length (Nat.le_refl _) i m' l'
 rw [List.take_length] at h
 exact h hi g'
theorem idl_ge : ∀ (xs : List S31) (a : Int), (∀ L ∈ xs, 0 ≤ L.f2 → L.f1 < L.f2) → a ≤ idl xs a
 | [], a, _ => Int.le_refl _
 | L :: r, a, h => by
  rw [idl]
  have hr := fun b => idl_ge r b (fun x hx => h x (List.mem_cons_of_mem _ hx))
  split
  ·have := h L (by simp) (by omega)
   have := hr (a + L.f2 - L.f1 - 1)
   omega
  ·exact hr a
theorem idl_zero : ∀ (xs : List S31) (a : Int), (∀ L ∈ xs, 0 ≤ L.f2 → L.f1 < L.f2) → (idl xs a = a ↔ ∀ L ∈ xs, L.f2 < 0 ∨ L.f2 = L.f1 + 1)
 | [], a, _ => by simp [idl]
 | L :: r, a, h => by
  have hr' : ∀ x ∈ r, 0 ≤ x.f2 → x.f1 < x.f2 := fun x hx => h x (List.mem_cons_of_mem _ hx)
  rw [idl]
  split
  ·have h1 := h L (by simp) (by omega)
   have h2 := idl_ge r (a + L.f2 - L.f1 - 1) hr'
   constructor
   ·intro he
    have hL : L.f2 = L.f1 + 1 := by omega
    rw [show a + L.f2 - L.f1 - 1 = a by omega] at he
    intro x hx
    rcases List.mem_cons.1 hx with rfl | hx
    ·exact .inr hL
    ·exact (idl_zero r a hr').1 he x hx
   ·intro hx
    have hL := (hx L (by simp)).resolve_left (by omega)
    rw [show a + L.f2 - L.f1 - 1 = a by omega]
    exact (idl_zero r a hr').2 (fun x hx' => hx x (List.mem_cons_of_mem _ hx'))
  ·rename_i h0
   rw [idl_zero r a hr']
   constructor
   ·intro hx x hx'
    rcases List.mem_cons.1 hx' with rfl | hx'
    ·exact .inl (by omega)
    ·exact hx x hx'
   ·intro hx x hx'
    exact hx x (List.mem_cons_of_mem _ hx')
theorem Good.ordered {o : List S55} {m : Nat} {l : List Int} (g : Good o m l) : ∀ L ∈ lvs o, 0 ≤ L.f2 → L.f1 < L.f2 := by
 intro L hL
 obtain ⟨j, hj, e⟩ := List.getElem_of_mem hL
 exact (g.life j L (by rw [List.getElem?_eq_getElem hj, e])).ud
theorem Good.prompt_iff {o : List S55} {m : Nat} {l : List Int} (g : Good o m l) : idl (lvs o) 0 = 0 ↔ Prompt o m := by
 rw [idl_zero _ _ g.ordered]
 have hl := g.lvs_length
 constructor
 ·intro h n h1 h2
  obtain ⟨j, hj, hg, _, _⟩ := g.lv_at h1 h2
  exact h _ (List.mem_of_getElem? hg)
 ·intro h L hL
  obtain ⟨j, hj, e⟩ := List.getElem_of_mem hL
  have := h ((j + 1 : Nat) : Int) (by omega) (by omega)
  rw [show ((j + 1 : Nat) : Int) - 1 = (j : Int) by omega, rd_get (by rw [List.getElem?_eq_getElem hj, e])] at this
  exact this
structure EarlyTx (a0 t : ByteArray) (o E : List S55) (m : Nat) : Prop where
 good : ∃ l, Good o m l
 goodE : ∃ l, Good E m l
 told : toldOf a0 = (o, (m : Int), true)
 toldE : toldOf t = (E, (m : Int), true)
 early : earlyOf a0 = (t, true)
 size : t.size = a0.size
 again : earlyOf t = (t, true)
 prompt : Prompt E m
 same : ∀ n : Int, 1 ≤ n → n ≤ m → ((rd_T31 (lvs E) (n - 1)).f2 < 0 ↔ (rd_T31 (lvs o) (n - 1)).f2 < 0)
 most : mostOf t ≤ mostOf a0
 len : o.length ≤ 600
 self : Prompt o m → t = a0
theorem earlyTx {a0 : ByteArray} (h : (toldOf a0).2.2 = true) : ∃ t o E m, EarlyTx a0 t o E m := by
 obtain ⟨m, l, g, hm, hl⟩ := told_good a0
 obtain ⟨htx, hti⟩ := told_text h
 obtain ⟨l', gE⟩ := g.early_all
 have hp := g.early_perm hti
 have htiE : ∀ e ∈ Pr.early (lvs (toldOf a0).1) (toldOf a0).1 0, Tidy e := fun e he => hti e (hp.subset he)
 have hlE : (Pr.early (lvs (toldOf a0).1) (toldOf a0).1 0).length ≤ 600 := by rw [hp.length_eq]; exact hl
 have htE := text_told gE hlE htiE
 have hlv := g.early_lives gE
 have htold : toldOf a0 = ((toldOf a0).1, (m : Int), true) := by rw [← hm, ← h]
 have hself : Pr.early (lvs (Pr.early (lvs (toldOf a0).1) (toldOf a0).1 0)) (Pr.early (lvs (toldOf a0).1) (toldOf a0).1 0) 0 = Pr.early (lvs (toldOf a0).1) (toldOf a0).1 0 := gE.prompt_early htiE hlv.1
 refine ⟨txt ((Pr.early (lvs (toldOf a0).1) (toldOf a0).1 0).map piece), (toldOf a0).1, _, m, ⟨l, g⟩, ⟨l', gE⟩, htold, htE, ?_, ?_, ?_, hlv.1, hlv.2, ?_, hl, ?_⟩
 ·unfold earlyOf; rw [if_pos h]
 ·rw [txt_perm hp, ← htx]
 ·unfold earlyOf
  rw [htE]
  simp only [if_true]
  rw [hself]
 ·unfold mostOf
  rw [htE, if_pos h]
  simp only [if_true]
  exact g.early_most
 ·intro hpr
  rw [g.prompt_early hti hpr]
  exact htx.symm
end Go.Proofs.YtndjbnkmhpbnpaaGreatDoor.Pr
namespace Go.Proofs.YtndjbnkmhpbnpaaGreatDoor.Pr
open Go.RowKit Go.Proofs.YtndjbnkmhpbnpaaGreatDoorW.PrintWords Go.Proofs.YtndjbnkmhpbnpaaGreatDoorW.PrintLast Go.Proofs.YtndjbnkmhpbnpaaGreatDoorW.PrintMore
attribute [local go_sem] max2_int min2_int max_two min_two max_three min_three max_four min_four   -- for this text's walks alone
set_option linter.unusedVariables false
set_option linter.unusedSimpArgs false
mutual
def laws_FnEarly.j0 : Nat → ByteArray → ByteArray → Bool → ByteArray → Bool → Int → Bool → Option (Bool)
 | 0, _, _, _, _, _, _, _ => none
 | k + 1, x3, x4, x5, x6, x7, x8, x50 => if x50 = true then (if x4.toList = x6.toList then (if (x5 == x7) = true then ((spec_IdleOf.f k x3).bind fun t296 => (if x8 = t296 then (if x5 = true then (some true) else (some (x8 == (-1)))) else (some false))) else (some false)) else (some false)) else ((impl_LivesOf.f x3).bind fun bt297 => ((impl_LivesOf.f x4).bind fun bt301 => ((impl_EarlyEvents.f k x4).bind fun bt305 => (if bt301.2 = true then (if (bt297.1.length : Int) = (bt301.1.length : Int) then (laws_FnEarly.j1 k x3 x4 x8 bt297.1 bt301.1 bt305.1 ((x4.size : Int) != (x3.size : Int))) else (laws_FnEarly.j1 k x3 x4 x8 bt297.1 bt301.1 bt305.1 true)) else (laws_FnEarly.j1 k x3 x4 x8 bt297.1 bt301.1 bt305.1 true)))))
def laws_FnEarly.j1 : Nat → ByteArray → ByteArray → Int → List (S31) → List (S31) → ByteArray → Bool → Option (Bool)
 | 0, _, _, _, _, _, _, _ => none
 | k + 1, x3, x4, x8, x9, x11, x13, x102 => if x102 = true then (some false) else (laws_FnEarly.l0 k x3 x4 x8 x9 x11 x13 (x9.length : Int) 0)
def laws_FnEarly.l0 : Nat → ByteArray → ByteArray → Int → List (S31) → List (S31) → ByteArray → Int → Int → Option (Bool)
 | 0, _, _, _, _, _, _, _, _ => none
 | k + 1, x3, x4, x8, x9, x11, x13, x104, x105 => if x105 < x104 then (if 0 ≤ x105 then (if x105 < (x9.length : Int) then (if x105 < (x11.length : Int) then (if ((decide (((rd_T31 x9 x105).f2) < 0)) != (decide (((rd_T31 x11 x105).f2) < 0))) = true then (some false) else (if ((rd_T31 x11 x105).f2) ≥ 0 then (if ((rd_T31 x11 x105).f2) = (wrap64 (((rd_T31 x11 x105).f1) + 1)) then (laws_FnEarly.l0 k x3 x4 x8 x9 x11 x13 x104 (wrap64 (x105 + 1))) else (some false)) else (laws_FnEarly.l0 k x3 x4 x8 x9 x11 x13 x104 (wrap64 (x105 + 1))))) else (none)) else (none)) else (none)) else ((impl_IdleOf.f k x4).bind fun t312 => (if t312 = 0 then (if x13.toList = x4.toList then ((impl_MostAlive.f k x4).bind fun t313 => ((impl_MostAlive.f k x3).bind fun t314 => (if t313 ≤ t314 then (if x8 ≥ 0 then (if x8 > 0 then (some true) else (some (x4.toList == x3.toList))) else (some false)) else (some false)))) else (some false)) else (some false)))
end
def laws_FnEarly.f (k : Nat) (a0 : ByteArray) : Option (Bool) := if (a0.size : Int) > 1048576 then (some true) else ((impl_EarlyEvents.f k a0).bind fun bt290 => ((spec_EarlyEvents.f k a0).bind fun bt292 => ((impl_IdleOf.f k a0).bind fun t294 => (if bt290.1.toList = bt292.1.toList then (if (bt290.2 != bt292.2) = true then (laws_FnEarly.j0 k a0 bt290.1 bt290.2 bt292.1 bt292.2 t294 true) else ((spec_IdleOf.f k a0).bind fun t295 => (if t294 = t295 then (laws_FnEarly.j0 k a0 bt290.1 bt290.2 bt292.1 bt292.2 t294 (!bt290.2)) else (laws_FnEarly.j0 k a0 bt290.1 bt290.2 bt292.1 bt292.2 t294 true)))) else (laws_FnEarly.j0 k a0 bt290.1 bt290.2 bt292.1 bt292.2 t294 true)))))
set_option maxHeartbeats 8000000 in
set_option maxRecDepth 100000 in
theorem laws_FnEarly.calls (w : World) (v : Value) (n : Nat) (xs : Nat → Int) (hv : BArg w v n xs) (hn : n ≤ 1048576) (hLd : LaidW w) (r : Bool) (P : ∀ a0 : ByteArray, a0.size ≤ 900000 → ∃ k, laws_FnEarly.f k a0 = some r) :
  Calls Tryz.prog 3 #[v] w fun e w' => e = .returned (.bool r) ∧ Below w.heap.size w w' := by
 have HLd := Az.mk hLd
 have HP := Az.mk P
 clear hLd P
 obtain ⟨A0, c0, rfl⟩ : ∃ A c, v = .slice A n c := by
  rcases hv with ⟨rfl, rfl⟩ | ⟨a, cap, rfl, _⟩
  ·exact ⟨none, 0, rfl⟩
  ·exact ⟨some a, cap, rfl⟩
 have HV := Az.mk hv
 have hnb : decide ((1048576 : Int) < (n : Int)) = false := by simp; omega
 clear hv
 go_enter Tryz.func3, Tryz.ntmps3
 go_wp2_with fail
 refine (drawEarly_any w _ n xs HV.out hn).mono ?_
 rintro e w1 ⟨a0, ha0, rfl, hb0⟩
 obtain ⟨k, h⟩ := HP.out a0 ha0
 have HB := Az.mk hb0
 clear hb0 hnb
 have H : (if (a0.size : Int) > 1048576 then (some true) else ((impl_EarlyEvents.f k a0).bind fun bt290 => ((spec_EarlyEvents.f k a0).bind fun bt292 => ((impl_IdleOf.f k a0).bind fun t294 => (if bt290.1.toList = bt292.1.toList then (if (bt290.2 != bt292.2) = true then (laws_FnEarly.j0 k a0 bt290.1 bt290.2 bt292.1 bt292.2 t294 true) else ((spec_IdleOf.f k a0).bind fun t295 => (if t294 = t295 then (laws_FnEarly.j0 k a0 bt290.1 bt290.2 bt292.1 bt292.2 t294 (!bt290.2)) else (laws_FnEarly.j0 k a0 bt290.1 bt290.2 bt292.1 bt292.2 t294 true)))) else (laws_FnEarly.j0 k a0 bt290.1 bt290.2 bt292.1 bt292.2 t294 true)))))) = some r := h
 clear h
 by_cases c2 : (a0.size : Int) > 1048576
 ·exfalso; omega
 ·rw [if_neg c2] at H
  have c2b0 : decide (1048576 < (a0.size : Int)) = false := decide_eq_false c2
  have c2b1 : decide (1048576 < a0.size) = false := decide_eq_false (by omega)
  clear c2
  replace H := Option.bind_eq_some_iff.mp H
  obtain ⟨⟨t290, t291⟩, A30, H⟩ := H
  replace H : ((spec_EarlyEvents.f k a0).bind fun bt292 => ((impl_IdleOf.f k a0).bind fun t294 => (if t290.toList = bt292.1.toList then (if (t291 != bt292.2) = true then (laws_FnEarly.j0 k a0 t290 t291 bt292.1 bt292.2 t294 true) else ((spec_IdleOf.f k a0).bind fun t295 => (if t294 = t295 then (laws_FnEarly.j0 k a0 t290 t291 bt292.1 bt292.2 t294 (!t291)) else (laws_FnEarly.j0 k a0 t290 t291 bt292.1 bt292.2 t294 true)))) else (laws_FnEarly.j0 k a0 t290 t291 bt292.1 bt292.2 t294 true)))) = some r := H
  have A3 := Az.mk A30
  clear A30
  replace H := Option.bind_eq_some_iff.mp H
  obtain ⟨⟨t292, t293⟩, A40, H⟩ := H
  replace H : ((impl_IdleOf.f k a0).bind fun t294 => (if t290.toList = t292.toList then (if (t291 != t293) = true then (laws_FnEarly.j0 k a0 t290 t291 t292 t293 t294 true) else ((spec_IdleOf.f k a0).bind fun t295 => (if t294 = t295 then (laws_FnEarly.j0 k a0 t290 t291 t292 t293 t294 (!t291)) else (laws_FnEarly.j0 k a0 t290 t291 t292 t293 t294 true)))) else (laws_FnEarly.j0 k a0 t290 t291 t292 t293 t294 true))) = some r := H
  have A4 := Az.mk A40
  clear A40
  replace H := Option.bind_eq_some_iff.mp H
  obtain ⟨t294, A50, H⟩ := H
  replace H : (if t290.toList = t292.toList then (if (t291 != t293) = true then (laws_FnEarly.j0 k a0 t290 t291 t292 t293 t294 true) else ((spec_IdleOf.f k a0).bind fun t295 => (if t294 = t295 then (laws_FnEarly.j0 k a0 t290 t291 t292 t293 t294 (!t291)) else (laws_FnEarly.j0 k a0 t290 t291 t292 t293 t294 true)))) else (laws_FnEarly.j0 k a0 t290 t291 t292 t293 t294 true)) = some r := H
  have A5 := Az.mk A50
  clear A50
  have HC6 := Az.mk H
  clear H
  go_upto_region 7 with (first | (go_at_call 10; (with_reducible refine (impl_EarlyEvents.calls k a0 t290 t291 _ (HLd.out.below (by repeat first|exact HB.out|apply bA|apply bN|apply bD)) A3.out).mono ?_); rintro e w7 ⟨rfl, hb⟩; have n0_ := Az.mk (bS (by repeat first|exact HB.out|apply bA|apply bN|apply bD) hb); clear HB; have HB := n0_; clear n0_; (try clear hb); (try clear hb2); (try clear hk); (try clear hi)) | (go_at_call 11; (with_reducible refine (spec_EarlyEvents.calls k a0 t292 t293 _ A4.out).mono ?_); rintro e w8 ⟨rfl, hb⟩; have n0_ := Az.mk (bS (by repeat first|exact HB.out|apply bA|apply bN|apply bD) hb); clear HB; have HB := n0_; clear n0_; (try clear hb); (try clear hb2); (try clear hk); (try clear hi)) | (go_at_call 12; (with_reducible refine (impl_IdleOf.calls k a0 t294 _ (HLd.out.below (by repeat first|exact HB.out|apply bA|apply bN|apply bD)) A5.out).mono ?_); rintro e w9 ⟨rfl, hb⟩; have n0_ := Az.mk (bS (by repeat first|exact HB.out|apply bA|apply bN|apply bD) hb); clear HB; have HB := n0_; clear n0_; (try clear hb); (try clear hb2); (try clear hk); (try clear hi)))
  repeat (go_quiet (first | (go_at_call 10; (with_reducible refine (impl_EarlyEvents.calls k a0 t290 t291 _ (HLd.out.below (by repeat first|exact HB.out|apply bA|apply bN|apply bD)) A3.out).mono ?_); rintro e w7 ⟨rfl, hb⟩; have n0_ := Az.mk (bS (by repeat first|exact HB.out|apply bA|apply bN|apply bD) hb); clear HB; have HB := n0_; clear n0_; (try clear hb); (try clear hb2); (try clear hk); (try clear hi)) | (go_at_call 11; (with_reducible refine (spec_EarlyEvents.calls k a0 t292 t293 _ A4.out).mono ?_); rintro e w8 ⟨rfl, hb⟩; have n0_ := Az.mk (bS (by repeat first|exact HB.out|apply bA|apply bN|apply bD) hb); clear HB; have HB := n0_; clear n0_; (try clear hb); (try clear hb2); (try clear hk); (try clear hi)) | (go_at_call 12; (with_reducible refine (impl_IdleOf.calls k a0 t294 _ (HLd.out.below (by repeat first|exact HB.out|apply bA|apply bN|apply bD)) A5.out).mono ?_); rintro e w9 ⟨rfl, hb⟩; have n0_ := Az.mk (bS (by repeat first|exact HB.out|apply bA|apply bN|apply bD) hb); clear HB; have HB := n0_; clear n0_; (try clear hb); (try clear hb2); (try clear hk); (try clear hi))); go_upto_region 7 with (first | (go_at_call 10; (with_reducible refine (impl_EarlyEvents.calls k a0 t290 t291 _ (HLd.out.below (by repeat first|exact HB.out|apply bA|apply bN|apply bD)) A3.out).mono ?_); rintro e w7 ⟨rfl, hb⟩; have n0_ := Az.mk (bS (by repeat first|exact HB.out|apply bA|apply bN|apply bD) hb); clear HB; have HB := n0_; clear n0_; (try clear hb); (try clear hb2); (try clear hk); (try clear hi)) | (go_at_call 11; (with_reducible refine (spec_EarlyEvents.calls k a0 t292 t293 _ A4.out).mono ?_); rintro e w8 ⟨rfl, hb⟩; have n0_ := Az.mk (bS (by repeat first|exact HB.out|apply bA|apply bN|apply bD) hb); clear HB; have HB := n0_; clear n0_; (try clear hb); (try clear hb2); (try clear hk); (try clear hi)) | (go_at_call 12; (with_reducible refine (impl_IdleOf.calls k a0 t294 _ (HLd.out.below (by repeat first|exact HB.out|apply bA|apply bN|apply bD)) A5.out).mono ?_); rintro e w9 ⟨rfl, hb⟩; have n0_ := Az.mk (bS (by repeat first|exact HB.out|apply bA|apply bN|apply bD) hb); clear HB; have HB := n0_; clear n0_; (try clear hb); (try clear hb2); (try clear hk); (try clear hi))))
  (try simp only [Act.put, List.setIfInBounds_toArray, List.set_cons_zero, List.set_cons_succ])
  go_cut [50] (fun v50 wc => ∃ (kq : Nat) (x50_5 : Bool), v50 = .bool x50_5 ∧ Az (laws_FnEarly.j0 kq a0 t290 t291 t292 t293 t294 x50_5 = some r) ∧ Az (kq ≤ k) ∧ Az (Below w.heap.size w wc))
  case first =>
   have H := HC6.out
   clear HC6
   by_cases c10 : t290.toList = t292.toList
   ·rw [if_pos c10] at H
    have c10b0 : (t290.toList == t292.toList) = true := beq_iff_eq.mpr c10
    have c10b1 : (t290.toList != t292.toList) = false := bne_eq_false_iff_eq.mpr c10
    clear c10
    (first | rw [c10b0] | (simp only [i64_w, i32_w]; rw [c10b0]) | skip)
    by_cases c11 : (t291 != t293) = true
    ·rw [if_pos c11] at H
     have c11b0 : (t291 != t293) = true := c11
     (try (have c11b1 : decide (t291 = t293) = false := by simpa using c11))
     (try (have c11b2 : (t291 == t293) = false := by simpa using c11))
     (try (have c11b3 : ¬ (t291 = t293) := by simpa using c11))
     clear c11
     have H' := Az.mk H
     clear H
     go_wp2
     repeat (go_quiet (fail); try go_wp2)
     go_meet
     case rel => exact ⟨_, (true), (by first | rfl | (simp; done) | (simp [*]; done)), H', ⟨by first | omega | exact Nat.le_refl _⟩, ⟨by repeat (first | (with_reducible first|exact HB.out|apply bA|apply bN|apply bD) | exact HB.out)⟩⟩
    ·rw [if_neg c11] at H
     have c11b0 : (t291 != t293) = false := by simpa using c11
     (try (have c11b1 : decide (t291 = t293) = true := by simpa using c11))
     (try (have c11b2 : (t291 == t293) = true := by simpa using c11))
     clear c11
     replace H := Option.bind_eq_some_iff.mp H
     obtain ⟨t295, A120, H⟩ := H
     replace H : (if t294 = t295 then (laws_FnEarly.j0 k a0 t290 t291 t292 t293 t294 (!t291)) else (laws_FnEarly.j0 k a0 t290 t291 t292 t293 t294 true)) = some r := H
     have A12 := Az.mk A120
     clear A120
     by_cases c13 : t294 = t295
     ·rw [if_pos c13] at H
      have c13b0 : (t294 == t295) = true := beq_iff_eq.mpr c13
      have c13b1 : (t294 != t295) = false := bne_eq_false_iff_eq.mpr c13
      clear c13
      have H' := Az.mk H
      clear H
      go_wp2_with (first | (go_at_call 13; (with_reducible refine (spec_IdleOf.calls k a0 t295 _ A12.out).mono ?_); rintro e w14 ⟨rfl, hb⟩; have n0_ := Az.mk (bS (by repeat first|exact HB.out|apply bA|apply bN|apply bD) hb); clear HB; have HB := n0_; clear n0_; (try clear hb); (try clear hb2); (try clear hk); (try clear hi)))
      repeat (go_quiet (first | (go_at_call 13; (with_reducible refine (spec_IdleOf.calls k a0 t295 _ A12.out).mono ?_); rintro e w14 ⟨rfl, hb⟩; have n0_ := Az.mk (bS (by repeat first|exact HB.out|apply bA|apply bN|apply bD) hb); clear HB; have HB := n0_; clear n0_; (try clear hb); (try clear hb2); (try clear hk); (try clear hi))); try go_wp2_with (first | (go_at_call 13; (with_reducible refine (spec_IdleOf.calls k a0 t295 _ A12.out).mono ?_); rintro e w14 ⟨rfl, hb⟩; have n0_ := Az.mk (bS (by repeat first|exact HB.out|apply bA|apply bN|apply bD) hb); clear HB; have HB := n0_; clear n0_; (try clear hb); (try clear hb2); (try clear hk); (try clear hi))))
      go_meet
      case rel => exact ⟨_, (!t291), (by first | rfl | (simp; done) | (simp [*]; done)), H', ⟨by first | omega | exact Nat.le_refl _⟩, ⟨by repeat (first | (with_reducible first|exact HB.out|apply bA|apply bN|apply bD) | exact HB.out)⟩⟩
     ·rw [if_neg c13] at H
      have c13b0 : (t294 == t295) = false := beq_eq_false_iff_ne.mpr c13
      have c13b1 : (t294 != t295) = true := bne_iff_ne.mpr c13
      have H' := Az.mk H
      clear H
      go_wp2_with (first | (go_at_call 13; (with_reducible refine (spec_IdleOf.calls k a0 t295 _ A12.out).mono ?_); rintro e w15 ⟨rfl, hb⟩; have n0_ := Az.mk (bS (by repeat first|exact HB.out|apply bA|apply bN|apply bD) hb); clear HB; have HB := n0_; clear n0_; (try clear hb); (try clear hb2); (try clear hk); (try clear hi)))
      repeat (go_quiet (first | (go_at_call 13; (with_reducible refine (spec_IdleOf.calls k a0 t295 _ A12.out).mono ?_); rintro e w15 ⟨rfl, hb⟩; have n0_ := Az.mk (bS (by repeat first|exact HB.out|apply bA|apply bN|apply bD) hb); clear HB; have HB := n0_; clear n0_; (try clear hb); (try clear hb2); (try clear hk); (try clear hi))); try go_wp2_with (first | (go_at_call 13; (with_reducible refine (spec_IdleOf.calls k a0 t295 _ A12.out).mono ?_); rintro e w15 ⟨rfl, hb⟩; have n0_ := Az.mk (bS (by repeat first|exact HB.out|apply bA|apply bN|apply bD) hb); clear HB; have HB := n0_; clear n0_; (try clear hb); (try clear hb2); (try clear hk); (try clear hi))))
      go_meet
      case rel => exact ⟨_, (true), (by first | rfl | (simp; done) | (simp [*]; done)), H', ⟨by first | omega | exact Nat.le_refl _⟩, ⟨by repeat (first | (with_reducible first|exact HB.out|apply bA|apply bN|apply bD) | exact HB.out)⟩⟩
   ·rw [if_neg c10] at H
    have c10b0 : (t290.toList == t292.toList) = false := beq_eq_false_iff_ne.mpr c10
    have c10b1 : (t290.toList != t292.toList) = true := bne_iff_ne.mpr c10
    (first | rw [c10b0] | (simp only [i64_w, i32_w]; rw [c10b0]) | skip)
    have H' := Az.mk H
    clear H
    go_wp2
    repeat (go_quiet (fail); try go_wp2)
    go_meet
    case rel => exact ⟨_, (true), (by first | rfl | (simp; done) | (simp [*]; done)), H', ⟨by first | omega | exact Nat.le_refl _⟩, ⟨by repeat (first | (with_reducible first|exact HB.out|apply bA|apply bN|apply bD) | exact HB.out)⟩⟩
  case rest =>
   clear HC6
   try clear c1
   try clear c2
   try clear c2b0
   try clear c2b1
   try clear p2
   try clear c3
   try clear c10
   try clear c10b0
   try clear c10b1
   try clear c11
   try clear c11b0
   try clear c11b1
   try clear c11b2
   try clear c13
   try clear c13b0
   try clear c13b1
   obtain ⟨kq, x50_5, rfl, HA, HJ5, HB⟩ := hcut
   cases kq with
   | zero => exact absurd HA.out (by simp [laws_FnEarly.j0])
   | succ kj5 =>
    have H := HA.out
    clear HA
    simp only [laws_FnEarly.j0] at H
    by_cases c16 : x50_5 = true
    ·subst c16
     have H1 : (if t290.toList = t292.toList then (if (t291 == t293) = true then ((spec_IdleOf.f kj5 a0).bind fun t296 => (if t294 = t296 then (if t291 = true then (some true) else (some (t294 == (-1)))) else (some false))) else (some false)) else (some false)) = some r := by rw [if_pos rfl] at H; exact H
     clear H
     have H := H1
     clear H1
     by_cases c17 : t290.toList = t292.toList
     ·rw [if_pos c17] at H
      have c17b0 : (t290.toList == t292.toList) = true := beq_iff_eq.mpr c17
      have c17b1 : (t290.toList != t292.toList) = false := bne_eq_false_iff_eq.mpr c17
      clear c17
      by_cases c18 : (t291 == t293) = true
      ·rw [if_pos c18] at H
       have c18b0 : (t291 == t293) = true := c18
       (try (have c18b1 : decide (t291 = t293) = true := by simpa using c18))
       (try (have c18b2 : (t291 == t293) = true := by simpa using c18))
       clear c18
       replace H := Option.bind_eq_some_iff.mp H
       obtain ⟨t296, A190, H⟩ := H
       replace H : (if t294 = t296 then (if t291 = true then (some true) else (some (t294 == (-1)))) else (some false)) = some r := H
       have A19 := Az.mk A190
       clear A190
       by_cases c20 : t294 = t296
       ·rw [if_pos c20] at H
        have c20b0 : (t294 == t296) = true := beq_iff_eq.mpr c20
        have c20b1 : (t294 != t296) = false := bne_eq_false_iff_eq.mpr c20
        clear c20
        by_cases c21 : t291 = true
        ·subst c21
         have H1 : (some true) = some r := by rw [if_pos rfl] at H; exact H
         clear H
         have H := H1
         clear H1
         obtain rfl := Option.some.inj H
         go_wp2_with (first | (go_at_call 13; (with_reducible refine (spec_IdleOf.calls kj5 a0 t296 _ A19.out).mono ?_); rintro e w22 ⟨rfl, hb⟩; have n0_ := Az.mk (bS (by repeat first|exact HB.out|apply bA|apply bN|apply bD) hb); clear HB; have HB := n0_; clear n0_; (try clear hb); (try clear hb2); (try clear hk); (try clear hi)))
         repeat (go_quiet (first | (go_at_call 13; (with_reducible refine (spec_IdleOf.calls kj5 a0 t296 _ A19.out).mono ?_); rintro e w22 ⟨rfl, hb⟩; have n0_ := Az.mk (bS (by repeat first|exact HB.out|apply bA|apply bN|apply bD) hb); clear HB; have HB := n0_; clear n0_; (try clear hb); (try clear hb2); (try clear hk); (try clear hi))); try go_wp2_with (first | (go_at_call 13; (with_reducible refine (spec_IdleOf.calls kj5 a0 t296 _ A19.out).mono ?_); rintro e w22 ⟨rfl, hb⟩; have n0_ := Az.mk (bS (by repeat first|exact HB.out|apply bA|apply bN|apply bD) hb); clear HB; have HB := n0_; clear n0_; (try clear hb); (try clear hb2); (try clear hk); (try clear hi))))
         go_ret
         exact ⟨by first | rfl | (simp [errW_none, errW_some] <;> rfl) | (simp [*, errW_none, errW_some] <;> rfl), by repeat (first | (with_reducible first|exact HB.out|apply bA|apply bN|apply bD) | exact HB.out)⟩
        ·replace c21 := Bool.eq_false_iff.mpr c21
         subst c21
         have H1 : (some (t294 == (-1))) = some r := by rw [if_neg (show ¬ (false = true) by decide)] at H; exact H
         clear H
         have H := H1
         clear H1
         obtain rfl := Option.some.inj H
         go_wp2_with (first | (go_at_call 13; (with_reducible refine (spec_IdleOf.calls kj5 a0 t296 _ A19.out).mono ?_); rintro e w23 ⟨rfl, hb⟩; have n0_ := Az.mk (bS (by repeat first|exact HB.out|apply bA|apply bN|apply bD) hb); clear HB; have HB := n0_; clear n0_; (try clear hb); (try clear hb2); (try clear hk); (try clear hi)))
         repeat (go_quiet (first | (go_at_call 13; (with_reducible refine (spec_IdleOf.calls kj5 a0 t296 _ A19.out).mono ?_); rintro e w23 ⟨rfl, hb⟩; have n0_ := Az.mk (bS (by repeat first|exact HB.out|apply bA|apply bN|apply bD) hb); clear HB; have HB := n0_; clear n0_; (try clear hb); (try clear hb2); (try clear hk); (try clear hi))); try go_wp2_with (first | (go_at_call 13; (with_reducible refine (spec_IdleOf.calls kj5 a0 t296 _ A19.out).mono ?_); rintro e w23 ⟨rfl, hb⟩; have n0_ := Az.mk (bS (by repeat first|exact HB.out|apply bA|apply bN|apply bD) hb); clear HB; have HB := n0_; clear n0_; (try clear hb); (try clear hb2); (try clear hk); (try clear hi))))
         go_ret
         exact ⟨by first | rfl | (simp [errW_none, errW_some] <;> rfl) | (simp [*, errW_none, errW_some] <;> rfl), by repeat (first | (with_reducible first|exact HB.out|apply bA|apply bN|apply bD) | exact HB.out)⟩
       ·rw [if_neg c20] at H
        have c20b0 : (t294 == t296) = false := beq_eq_false_iff_ne.mpr c20
        have c20b1 : (t294 != t296) = true := bne_iff_ne.mpr c20
        obtain rfl := Option.some.inj H
        go_wp2_with (first | (go_at_call 13; (with_reducible refine (spec_IdleOf.calls kj5 a0 t296 _ A19.out).mono ?_); rintro e w24 ⟨rfl, hb⟩; have n0_ := Az.mk (bS (by repeat first|exact HB.out|apply bA|apply bN|apply bD) hb); clear HB; have HB := n0_; clear n0_; (try clear hb); (try clear hb2); (try clear hk); (try clear hi)))
        repeat (go_quiet (first | (go_at_call 13; (with_reducible refine (spec_IdleOf.calls kj5 a0 t296 _ A19.out).mono ?_); rintro e w24 ⟨rfl, hb⟩; have n0_ := Az.mk (bS (by repeat first|exact HB.out|apply bA|apply bN|apply bD) hb); clear HB; have HB := n0_; clear n0_; (try clear hb); (try clear hb2); (try clear hk); (try clear hi))); try go_wp2_with (first | (go_at_call 13; (with_reducible refine (spec_IdleOf.calls kj5 a0 t296 _ A19.out).mono ?_); rintro e w24 ⟨rfl, hb⟩; have n0_ := Az.mk (bS (by repeat first|exact HB.out|apply bA|apply bN|apply bD) hb); clear HB; have HB := n0_; clear n0_; (try clear hb); (try clear hb2); (try clear hk); (try clear hi))))
        go_ret
        exact ⟨by first | rfl | (simp [errW_none, errW_some] <;> rfl) | (simp [*, errW_none, errW_some] <;> rfl), by repeat (first | (with_reducible first|exact HB.out|apply bA|apply bN|apply bD) | exact HB.out)⟩
      ·rw [if_neg c18] at H
       have c18b0 : (t291 == t293) = false := by simpa using c18
       (try (have c18b1 : decide (t291 = t293) = false := by simpa using c18))
       (try (have c18b2 : (t291 == t293) = false := by simpa using c18))
       (try (have c18b3 : ¬ (t291 = t293) := by simpa using c18))
       clear c18
       obtain rfl := Option.some.inj H
       go_wp2
       repeat (go_quiet (fail); try go_wp2)
       go_ret
       exact ⟨by first | rfl | (simp [errW_none, errW_some] <;> rfl) | (simp [*, errW_none, errW_some] <;> rfl), by repeat (first | (with_reducible first|exact HB.out|apply bA|apply bN|apply bD) | exact HB.out)⟩
     ·rw [if_neg c17] at H
      have c17b0 : (t290.toList == t292.toList) = false := beq_eq_false_iff_ne.mpr c17
      have c17b1 : (t290.toList != t292.toList) = true := bne_iff_ne.mpr c17
      obtain rfl := Option.some.inj H
      go_wp2
      repeat (go_quiet (fail); try go_wp2)
      go_ret
      exact ⟨by first | rfl | (simp [errW_none, errW_some] <;> rfl) | (simp [*, errW_none, errW_some] <;> rfl), by repeat (first | (with_reducible first|exact HB.out|apply bA|apply bN|apply bD) | exact HB.out)⟩
    ·replace c16 := Bool.eq_false_iff.mpr c16
     subst c16
     have H1 : ((impl_LivesOf.f a0).bind fun bt297 => ((impl_LivesOf.f t290).bind fun bt301 => ((impl_EarlyEvents.f kj5 t290).bind fun bt305 => (if bt301.2 = true then (if (bt297.1.length : Int) = (bt301.1.length : Int) then (laws_FnEarly.j1 kj5 a0 t290 t294 bt297.1 bt301.1 bt305.1 ((t290.size : Int) != (a0.size : Int))) else (laws_FnEarly.j1 kj5 a0 t290 t294 bt297.1 bt301.1 bt305.1 true)) else (laws_FnEarly.j1 kj5 a0 t290 t294 bt297.1 bt301.1 bt305.1 true))))) = some r := by rw [if_neg (show ¬ (false = true) by decide)] at H; exact H
     clear H
     have H := H1
     clear H1
     replace H := Option.bind_eq_some_iff.mp H
     obtain ⟨⟨t297, t298⟩, A250, H⟩ := H
     replace H : ((impl_LivesOf.f t290).bind fun bt301 => ((impl_EarlyEvents.f kj5 t290).bind fun bt305 => (if bt301.2 = true then (if (t297.length : Int) = (bt301.1.length : Int) then (laws_FnEarly.j1 kj5 a0 t290 t294 t297 bt301.1 bt305.1 ((t290.size : Int) != (a0.size : Int))) else (laws_FnEarly.j1 kj5 a0 t290 t294 t297 bt301.1 bt305.1 true)) else (laws_FnEarly.j1 kj5 a0 t290 t294 t297 bt301.1 bt305.1 true)))) = some r := H
     have A25 := Az.mk A250
     clear A250
     replace H := Option.bind_eq_some_iff.mp H
     obtain ⟨⟨t301, t302⟩, A260, H⟩ := H
     replace H : ((impl_EarlyEvents.f kj5 t290).bind fun bt305 => (if t302 = true then (if (t297.length : Int) = (t301.length : Int) then (laws_FnEarly.j1 kj5 a0 t290 t294 t297 t301 bt305.1 ((t290.size : Int) != (a0.size : Int))) else (laws_FnEarly.j1 kj5 a0 t290 t294 t297 t301 bt305.1 true)) else (laws_FnEarly.j1 kj5 a0 t290 t294 t297 t301 bt305.1 true))) = some r := H
     have A26 := Az.mk A260
     clear A260
     replace H := Option.bind_eq_some_iff.mp H
     obtain ⟨⟨t305, t306⟩, A270, H⟩ := H
     replace H : (if t302 = true then (if (t297.length : Int) = (t301.length : Int) then (laws_FnEarly.j1 kj5 a0 t290 t294 t297 t301 t305 ((t290.size : Int) != (a0.size : Int))) else (laws_FnEarly.j1 kj5 a0 t290 t294 t297 t301 t305 true)) else (laws_FnEarly.j1 kj5 a0 t290 t294 t297 t301 t305 true)) = some r := H
     have A27 := Az.mk A270
     clear A270
     have HC28 := Az.mk H
     clear H
     go_upto_region 12 with (first | (go_at_call 14; (with_reducible refine (impl_LivesOf.calls a0 t297 t298 _ (HLd.out.below (by repeat first|exact HB.out|apply bA|apply bN|apply bD)) A25.out).mono ?_); rintro e w29 ⟨v299, rfl, ho0, hb⟩; have n0_ := Az.mk (Kd.R_lower ho0 (bZ (by repeat first|exact HB.out|apply bA|apply bN|apply bD))); have n1_ := Az.mk (bS (by repeat first|exact HB.out|apply bA|apply bN|apply bD) hb); clear HB; have HO300 := n0_; have HB := n1_; clear n0_ n1_; (try clear hb); (try clear hb2); (try clear hk); (try clear hi); (try clear ho0)) | (go_at_call 14; (with_reducible refine (impl_LivesOf.calls t290 t301 t302 _ (HLd.out.below (by repeat first|exact HB.out|apply bA|apply bN|apply bD)) A26.out).mono ?_); rintro e w30 ⟨v303, rfl, ho0, hb⟩; have n0_ := Az.mk (Kd.R_elder' (by (with_reducible repeat first|apply Kd.Ra|apply Kd.Rn|apply Kd.Rw); exact HO300.out) (Kd.R_base ho0) hb); have n1_ := Az.mk (Kd.R_lower (Kd.R_new' ho0 (Kd.R_lt (by (with_reducible repeat first|apply Kd.Ra|apply Kd.Rn|apply Kd.Rw); exact HO300.out))) (bZ (by repeat first|exact HB.out|apply bA|apply bN|apply bD))); have n2_ := Az.mk (bS (by repeat first|exact HB.out|apply bA|apply bN|apply bD) hb); clear HO300; clear HB; have HO300 := n0_; have HO304 := n1_; have HB := n2_; clear n0_ n1_ n2_; (try clear hb); (try clear hb2); (try clear hk); (try clear hi); (try clear ho0)) | (go_at_call 10; (with_reducible refine (impl_EarlyEvents.calls kj5 t290 t305 t306 _ (HLd.out.below (by repeat first|exact HB.out|apply bA|apply bN|apply bD)) A27.out).mono ?_); rintro e w31 ⟨rfl, hb⟩; have n0_ := Az.mk (Kd.Rb (by (with_reducible repeat first|apply Kd.Ra|apply Kd.Rn|apply Kd.Rw); exact HO300.out) hb); have n1_ := Az.mk (Kd.Rb (by (with_reducible repeat first|apply Kd.Ra|apply Kd.Rn|apply Kd.Rw); exact HO304.out) hb); have n2_ := Az.mk (bS (by repeat first|exact HB.out|apply bA|apply bN|apply bD) hb); clear HO300; clear HO304; clear HB; have HO300 := n0_; have HO304 := n1_; have HB := n2_; clear n0_ n1_ n2_; (try clear hb); (try clear hb2); (try clear hk); (try clear hi)))
     repeat (go_quiet (first | (go_at_call 14; (with_reducible refine (impl_LivesOf.calls a0 t297 t298 _ (HLd.out.below (by repeat first|exact HB.out|apply bA|apply bN|apply bD)) A25.out).mono ?_); rintro e w29 ⟨v299, rfl, ho0, hb⟩; have n0_ := Az.mk (Kd.R_lower ho0 (bZ (by repeat first|exact HB.out|apply bA|apply bN|apply bD))); have n1_ := Az.mk (bS (by repeat first|exact HB.out|apply bA|apply bN|apply bD) hb); clear HB; have HO300 := n0_; have HB := n1_; clear n0_ n1_; (try clear hb); (try clear hb2); (try clear hk); (try clear hi); (try clear ho0)) | (go_at_call 14; (with_reducible refine (impl_LivesOf.calls t290 t301 t302 _ (HLd.out.below (by repeat first|exact HB.out|apply bA|apply bN|apply bD)) A26.out).mono ?_); rintro e w30 ⟨v303, rfl, ho0, hb⟩; have n0_ := Az.mk (Kd.R_elder' (by (with_reducible repeat first|apply Kd.Ra|apply Kd.Rn|apply Kd.Rw); exact HO300.out) (Kd.R_base ho0) hb); have n1_ := Az.mk (Kd.R_lower (Kd.R_new' ho0 (Kd.R_lt (by (with_reducible repeat first|apply Kd.Ra|apply Kd.Rn|apply Kd.Rw); exact HO300.out))) (bZ (by repeat first|exact HB.out|apply bA|apply bN|apply bD))); have n2_ := Az.mk (bS (by repeat first|exact HB.out|apply bA|apply bN|apply bD) hb); clear HO300; clear HB; have HO300 := n0_; have HO304 := n1_; have HB := n2_; clear n0_ n1_ n2_; (try clear hb); (try clear hb2); (try clear hk); (try clear hi); (try clear ho0)) | (go_at_call 10; (with_reducible refine (impl_EarlyEvents.calls kj5 t290 t305 t306 _ (HLd.out.below (by repeat first|exact HB.out|apply bA|apply bN|apply bD)) A27.out).mono ?_); rintro e w31 ⟨rfl, hb⟩; have n0_ := Az.mk (Kd.Rb (by (with_reducible repeat first|apply Kd.Ra|apply Kd.Rn|apply Kd.Rw); exact HO300.out) hb); have n1_ := Az.mk (Kd.Rb (by (with_reducible repeat first|apply Kd.Ra|apply Kd.Rn|apply Kd.Rw); exact HO304.out) hb); have n2_ := Az.mk (bS (by repeat first|exact HB.out|apply bA|apply bN|apply bD) hb); clear HO300; clear HO304; clear HB; have HO300 := n0_; have HO304 := n1_; have HB := n2_; clear n0_ n1_ n2_; (try clear hb); (try clear hb2); (try clear hk); (try clear hi))); go_upto_region 12 with (first | (go_at_call 14; (with_reducible refine (impl_LivesOf.calls a0 t297 t298 _ (HLd.out.below (by repeat first|exact HB.out|apply bA|apply bN|apply bD)) A25.out).mono ?_); rintro e w29 ⟨v299, rfl, ho0, hb⟩; have n0_ := Az.mk (Kd.R_lower ho0 (bZ (by repeat first|exact HB.out|apply bA|apply bN|apply bD))); have n1_ := Az.mk (bS (by repeat first|exact HB.out|apply bA|apply bN|apply bD) hb); clear HB; have HO300 := n0_; have HB := n1_; clear n0_ n1_; (try clear hb); (try clear hb2); (try clear hk); (try clear hi); (try clear ho0)) | (go_at_call 14; (with_reducible refine (impl_LivesOf.calls t290 t301 t302 _ (HLd.out.below (by repeat first|exact HB.out|apply bA|apply bN|apply bD)) A26.out).mono ?_); rintro e w30 ⟨v303, rfl, ho0, hb⟩; have n0_ := Az.mk (Kd.R_elder' (by (with_reducible repeat first|apply Kd.Ra|apply Kd.Rn|apply Kd.Rw); exact HO300.out) (Kd.R_base ho0) hb); have n1_ := Az.mk (Kd.R_lower (Kd.R_new' ho0 (Kd.R_lt (by (with_reducible repeat first|apply Kd.Ra|apply Kd.Rn|apply Kd.Rw); exact HO300.out))) (bZ (by repeat first|exact HB.out|apply bA|apply bN|apply bD))); have n2_ := Az.mk (bS (by repeat first|exact HB.out|apply bA|apply bN|apply bD) hb); clear HO300; clear HB; have HO300 := n0_; have HO304 := n1_; have HB := n2_; clear n0_ n1_ n2_; (try clear hb); (try clear hb2); (try clear hk); (try clear hi); (try clear ho0)) | (go_at_call 10; (with_reducible refine (impl_EarlyEvents.calls kj5 t290 t305 t306 _ (HLd.out.below (by repeat first|exact HB.out|apply bA|apply bN|apply bD)) A27.out).mono ?_); rintro e w31 ⟨rfl, hb⟩; have n0_ := Az.mk (Kd.Rb (by (with_reducible repeat first|apply Kd.Ra|apply Kd.Rn|apply Kd.Rw); exact HO300.out) hb); have n1_ := Az.mk (Kd.Rb (by (with_reducible repeat first|apply Kd.Ra|apply Kd.Rn|apply Kd.Rw); exact HO304.out) hb); have n2_ := Az.mk (bS (by repeat first|exact HB.out|apply bA|apply bN|apply bD) hb); clear HO300; clear HO304; clear HB; have HO300 := n0_; have HO304 := n1_; have HB := n2_; clear n0_ n1_ n2_; (try clear hb); (try clear hb2); (try clear hk); (try clear hi))))
     (try simp only [Act.put, List.setIfInBounds_toArray, List.set_cons_zero, List.set_cons_succ])
     go_cut [102] (fun v102 wc => ∃ (kq : Nat) (x102_27 : Bool), v102 = .bool x102_27 ∧ Az (laws_FnEarly.j1 kq a0 t290 t294 t297 t301 t305 x102_27 = some r) ∧ Az (kq ≤ kj5) ∧ Az (Kd.R k31 31 wc w.heap.size (fun k_ => some k_ ≠ (v303 : Value).ownBlock) v299 t297) ∧ Az (Kd.R k31 31 wc w.heap.size (fun k_ => some k_ ≠ (v299 : Value).ownBlock) v303 t301) ∧ Az (Below w.heap.size w wc))
     case first =>
      have H := HC28.out
      clear HC28
      by_cases c32 : t302 = true
      ·subst c32
       have H1 : (if (t297.length : Int) = (t301.length : Int) then (laws_FnEarly.j1 kj5 a0 t290 t294 t297 t301 t305 ((t290.size : Int) != (a0.size : Int))) else (laws_FnEarly.j1 kj5 a0 t290 t294 t297 t301 t305 true)) = some r := by rw [if_pos rfl] at H; exact H
       clear H
       have H := H1
       clear H1
       by_cases c33 : (t297.length : Int) = (t301.length : Int)
       ·rw [if_pos c33] at H
        have c33b0 : ((t297.length : Int) == (t301.length : Int)) = true := beq_iff_eq.mpr c33
        have c33b1 : ((t297.length : Int) != (t301.length : Int)) = false := bne_eq_false_iff_eq.mpr c33
        have c33b2 : (t297.length == t301.length) = true := by first | simpa using c33 | (simp at c33 ⊢; omega)
        clear c33
        (first | rw [c33b0] | (simp only [i64_w, i32_w]; rw [c33b0]) | skip)
        have H' := Az.mk H
        clear H
        obtain ⟨Ao34, co34, eo34⟩ := Kd.R_slice HO300.out
        subst eo34
        obtain ⟨Ao35, co35, eo35⟩ := Kd.R_slice HO304.out
        subst eo35
        go_wp2
        repeat (go_quiet (fail); try go_wp2)
        go_meet
        case rel => exact ⟨_, (((t290.size : Int) != (a0.size : Int))), (by first | rfl | (simp; done) | (simp [*]; done)), H', ⟨by have := HJ5.out; first | omega | exact Nat.le_refl _⟩, ⟨by (with_reducible repeat first|apply Kd.Ra|apply Kd.Rn|apply Kd.Rw); exact Kd.R_mono HO300.out (fun _ hk => hk.2)⟩, ⟨by (with_reducible repeat first|apply Kd.Ra|apply Kd.Rn|apply Kd.Rw); exact Kd.R_mono HO304.out (fun _ hk => hk.2)⟩, ⟨by repeat (first | (with_reducible first|exact HB.out|apply bA|apply bN|apply bD) | exact HB.out)⟩⟩
       ·rw [if_neg c33] at H
        have c33b0 : ((t297.length : Int) == (t301.length : Int)) = false := beq_eq_false_iff_ne.mpr c33
        have c33b1 : ((t297.length : Int) != (t301.length : Int)) = true := bne_iff_ne.mpr c33
        have c33b2 : (t297.length == t301.length) = false := by first | simpa using c33 | (simp at c33 ⊢; omega)
        (first | rw [c33b0] | (simp only [i64_w, i32_w]; rw [c33b0]) | skip)
        have H' := Az.mk H
        clear H
        obtain ⟨Ao36, co36, eo36⟩ := Kd.R_slice HO300.out
        subst eo36
        obtain ⟨Ao37, co37, eo37⟩ := Kd.R_slice HO304.out
        subst eo37
        go_wp2
        repeat (go_quiet (fail); try go_wp2)
        go_meet
        case rel => exact ⟨_, (true), (by first | rfl | (simp; done) | (simp [*]; done)), H', ⟨by have := HJ5.out; first | omega | exact Nat.le_refl _⟩, ⟨by (with_reducible repeat first|apply Kd.Ra|apply Kd.Rn|apply Kd.Rw); exact Kd.R_mono HO300.out (fun _ hk => hk.2)⟩, ⟨by (with_reducible repeat first|apply Kd.Ra|apply Kd.Rn|apply Kd.Rw); exact Kd.R_mono HO304.out (fun _ hk => hk.2)⟩, ⟨by repeat (first | (with_reducible first|exact HB.out|apply bA|apply bN|apply bD) | exact HB.out)⟩⟩
      ·replace c32 := Bool.eq_false_iff.mpr c32
       subst c32
       have H1 : (laws_FnEarly.j1 kj5 a0 t290 t294 t297 t301 t305 true) = some r := by rw [if_neg (show ¬ (false = true) by decide)] at H; exact H
       clear H
       have H := H1
       clear H1
       have H' := Az.mk H
       clear H
       go_wp2
       repeat (go_quiet (fail); try go_wp2)
       go_meet
       case rel => exact ⟨_, (true), (by first | rfl | (simp; done) | (simp [*]; done)), H', ⟨by have := HJ5.out; first | omega | exact Nat.le_refl _⟩, ⟨by (with_reducible repeat first|apply Kd.Ra|apply Kd.Rn|apply Kd.Rw); exact Kd.R_mono HO300.out (fun _ hk => hk.2)⟩, ⟨by (with_reducible repeat first|apply Kd.Ra|apply Kd.Rn|apply Kd.Rw); exact Kd.R_mono HO304.out (fun _ hk => hk.2)⟩, ⟨by repeat (first | (with_reducible first|exact HB.out|apply bA|apply bN|apply bD) | exact HB.out)⟩⟩
     case rest =>
      clear HC28
      try clear c1
      try clear c2
      try clear c2b0
      try clear c2b1
      try clear p2
      try clear c3
      try clear c10
      try clear c10b0
      try clear c10b1
      try clear c11
      try clear c11b0
      try clear c11b1
      try clear c11b2
      try clear c13
      try clear c13b0
      try clear c13b1
      try clear c16
      try clear c17
      try clear c17b0
      try clear c17b1
      try clear c18
      try clear c18b0
      try clear c18b1
      try clear c18b2
      try clear c20
      try clear c20b0
      try clear c20b1
      try clear c21
      try clear c32
      try clear c33
      try clear c33b0
      try clear c33b1
      try clear c33b2
      try clear p2
      obtain ⟨kq, x102_27, rfl, HA, HJ27, HO_9, HO_11, HB⟩ := hcut
      cases kq with
      | zero => exact absurd HA.out (by simp [laws_FnEarly.j1])
      | succ kj27 =>
       have H := HA.out
       clear HA
       simp only [laws_FnEarly.j1] at H
       by_cases c38 : x102_27 = true
       ·subst c38
        have H1 : (some false) = some r := by rw [if_pos rfl] at H; exact H
        clear H
        have H := H1
        clear H1
        obtain rfl := Option.some.inj H
        go_wp2
        repeat (go_quiet (fail); try go_wp2)
        go_ret
        exact ⟨by first | rfl | (simp [errW_none, errW_some] <;> rfl) | (simp [*, errW_none, errW_some] <;> rfl), by repeat (first | (with_reducible first|exact HB.out|apply bA|apply bN|apply bD) | exact HB.out)⟩
       ·replace c38 := Bool.eq_false_iff.mpr c38
        subst c38
        have H1 : (laws_FnEarly.l0 kj27 a0 t290 t294 t297 t301 t305 (t297.length : Int) 0) = some r := by rw [if_neg (show ¬ (false = true) by decide)] at H; exact H
        clear H
        have H := H1
        clear H1
        have H' := Az.mk H
        clear H
        obtain ⟨Ao39, co39, eo39⟩ := Kd.R_slice HO_9.out
        subst eo39
        go_wp2
        repeat (go_quiet (fail); try go_wp2)
        go_loopg [105] kj27 (fun kq v105 w' => ∃ (x105_3 : Int), v105 = .int .i64 x105_3 ∧ Az (laws_FnEarly.l0 kq a0 t290 t294 t297 t301 t305 (t297.length : Int) x105_3 = some r) ∧ Az (kq ≤ kj27) ∧ Az (Kd.R k31 31 w' w.heap.size (fun k_ => some k_ ≠ (v303 : Value).ownBlock) (.slice Ao39 t297.length co39) t297) ∧ Az (Kd.R k31 31 w' w.heap.size (fun k_ => some k_ ≠ ((.slice Ao39 t297.length co39) : Value).ownBlock) v303 t301) ∧ Az (Below w.heap.size w w'))
        case atStart => exact ⟨(0), (by first | rfl | (simp; done) | (simp [*]; done)), H', ⟨Nat.le_refl _⟩, ⟨by (with_reducible repeat first|apply Kd.Ra|apply Kd.Rn|apply Kd.Rw); exact HO_9.out⟩, ⟨by (with_reducible repeat first|apply Kd.Ra|apply Kd.Rn|apply Kd.Rw); exact HO_11.out⟩, ⟨by repeat (first | (with_reducible first|exact HB.out|apply bA|apply bN|apply bD) | exact HB.out)⟩⟩
        case round =>
         clear H'
         try clear c1
         try clear c2
         try clear c2b0
         try clear c2b1
         try clear p2
         try clear c3
         try clear c10
         try clear c10b0
         try clear c10b1
         try clear c11
         try clear c11b0
         try clear c11b1
         try clear c11b2
         try clear c13
         try clear c13b0
         try clear c13b1
         try clear c16
         try clear c17
         try clear c17b0
         try clear c17b1
         try clear c18
         try clear c18b0
         try clear c18b1
         try clear c18b2
         try clear c20
         try clear c20b0
         try clear c20b1
         try clear c21
         try clear c32
         try clear c33
         try clear c33b0
         try clear c33b1
         try clear c33b2
         try clear c38
         try clear p2
         obtain ⟨x105_3, rfl, HA, HK3, HO_9, HO_11, HB⟩ := hrel
         cases gk with
         | zero => exact absurd HA.out (by simp [laws_FnEarly.l0])
         | succ k3 =>
          have H := HA.out
          clear HA
          simp only [laws_FnEarly.l0] at H
          by_cases c40 : x105_3 < (t297.length : Int)
          ·rw [if_pos c40] at H
           have c40b0 : decide (x105_3 < (t297.length : Int)) = true := decide_eq_true c40
           clear c40
           by_cases c41 : 0 ≤ x105_3
           ·rw [if_pos c41] at H
            have c41b0 : decide (0 ≤ x105_3) = true := decide_eq_true c41
            clear c41
            by_cases c42 : x105_3 < (t297.length : Int)
            ·rw [if_pos c42] at H
             have c42b0 : decide (x105_3 < (t297.length : Int)) = true := decide_eq_true c42
             clear c42
             by_cases c43 : x105_3 < (t301.length : Int)
             ·rw [if_pos c43] at H
              have c43b0 : decide (x105_3 < (t301.length : Int)) = true := decide_eq_true c43
              clear c43
              by_cases c44 : ((decide (((rd_T31 t297 x105_3).f2) < 0)) != (decide (((rd_T31 t301 x105_3).f2) < 0))) = true
              ·rw [if_pos c44] at H
               have c44b0 : ((decide (((rd_T31 t297 x105_3).f2) < 0)) != (decide (((rd_T31 t301 x105_3).f2) < 0))) = true := c44
               (try (have c44b1 : decide ((decide (((rd_T31 t297 x105_3).f2) < 0)) = (decide (((rd_T31 t301 x105_3).f2) < 0))) = false := by simpa using c44))
               (try (have c44b2 : ((decide (((rd_T31 t297 x105_3).f2) < 0)) == (decide (((rd_T31 t301 x105_3).f2) < 0))) = false := by simpa using c44))
               (try (have c44b3 : ¬ ((decide (((rd_T31 t297 x105_3).f2) < 0)) = (decide (((rd_T31 t301 x105_3).f2) < 0))) := by simpa using c44))
               clear c44
               obtain rfl := Option.some.inj H
               have p307 : 0 ≤ (x105_3 : Int) := of_decide_eq_true (by first|(with_reducible assumption)|assumption)
               have q307 : x105_3 < (t297.length : Int) := of_decide_eq_true (by first|(with_reducible assumption)|assumption)
               obtain ⟨ad307, e307, hx307_0, hx307_1, hx307_2⟩ := at_T31 (Kd.R_reads' HO_9.out).2.2 x105_3 p307 q307
               cases e307
               replace p307 := eq_true p307
               replace q307 := eq_true q307
               obtain ⟨Ao45, co45, eo45⟩ := Kd.R_slice HO_11.out
               subst eo45
               have p308 : 0 ≤ (x105_3 : Int) := of_decide_eq_true (by first|(with_reducible assumption)|assumption)
               have q308 : x105_3 < (t301.length : Int) := of_decide_eq_true (by first|(with_reducible assumption)|assumption)
               obtain ⟨ad308, e308, hx308_0, hx308_1, hx308_2⟩ := at_T31 (Kd.R_reads' HO_11.out).2.2 x105_3 p308 q308
               cases e308
               replace p308 := eq_true p308
               replace q308 := eq_true q308
               go_wp2
               repeat (go_quiet (fail); try go_wp2)
               go_ret
               exact ⟨by first | rfl | (simp [errW_none, errW_some] <;> rfl) | (simp [*, errW_none, errW_some] <;> rfl), by repeat (first | (with_reducible first|exact HB.out|apply bA|apply bN|apply bD) | exact HB.out)⟩
              ·rw [if_neg c44] at H
               have c44b0 : ((decide (((rd_T31 t297 x105_3).f2) < 0)) != (decide (((rd_T31 t301 x105_3).f2) < 0))) = false := by simpa using c44
               (try (have c44b1 : decide ((decide (((rd_T31 t297 x105_3).f2) < 0)) = (decide (((rd_T31 t301 x105_3).f2) < 0))) = true := by simpa using c44))
               (try (have c44b2 : ((decide (((rd_T31 t297 x105_3).f2) < 0)) == (decide (((rd_T31 t301 x105_3).f2) < 0))) = true := by simpa using c44))
               clear c44
               by_cases c46 : ((rd_T31 t301 x105_3).f2) ≥ 0
               ·rw [if_pos c46] at H
                have c46b0 : decide (0 ≤ ((rd_T31 t301 x105_3).f2)) = true := decide_eq_true c46
                clear c46
                by_cases c47 : ((rd_T31 t301 x105_3).f2) = (wrap64 (((rd_T31 t301 x105_3).f1) + 1))
                ·rw [if_pos c47] at H
                 have c47b0 : (((rd_T31 t301 x105_3).f2) == (wrap64 (((rd_T31 t301 x105_3).f1) + 1))) = true := beq_iff_eq.mpr c47
                 have c47b1 : (((rd_T31 t301 x105_3).f2) != (wrap64 (((rd_T31 t301 x105_3).f1) + 1))) = false := bne_eq_false_iff_eq.mpr c47
                 clear c47
                 have H' := Az.mk H
                 clear H
                 have p307 : 0 ≤ (x105_3 : Int) := of_decide_eq_true (by first|(with_reducible assumption)|assumption)
                 have q307 : x105_3 < (t297.length : Int) := of_decide_eq_true (by first|(with_reducible assumption)|assumption)
                 obtain ⟨ad307, e307, hx307_0, hx307_1, hx307_2⟩ := at_T31 (Kd.R_reads' HO_9.out).2.2 x105_3 p307 q307
                 cases e307
                 replace p307 := eq_true p307
                 replace q307 := eq_true q307
                 obtain ⟨Ao48, co48, eo48⟩ := Kd.R_slice HO_11.out
                 subst eo48
                 have p308 : 0 ≤ (x105_3 : Int) := of_decide_eq_true (by first|(with_reducible assumption)|assumption)
                 have q308 : x105_3 < (t301.length : Int) := of_decide_eq_true (by first|(with_reducible assumption)|assumption)
                 obtain ⟨ad308, e308, hx308_0, hx308_1, hx308_2⟩ := at_T31 (Kd.R_reads' HO_11.out).2.2 x105_3 p308 q308
                 cases e308
                 replace p308 := eq_true p308
                 replace q308 := eq_true q308
                 have p309 : 0 ≤ (x105_3 : Int) := of_decide_eq_true (by first|(with_reducible assumption)|assumption)
                 have q309 : x105_3 < (t301.length : Int) := of_decide_eq_true (by first|(with_reducible assumption)|assumption)
                 obtain ⟨ad309, e309, hx309_0, hx309_1, hx309_2⟩ := at_T31 (Kd.R_reads' HO_11.out).2.2 x105_3 p309 q309
                 obtain rfl : ad308 = ad309 := (by injection e309)
                 replace p309 := eq_true p309
                 replace q309 := eq_true q309
                 have p310 : 0 ≤ (x105_3 : Int) := of_decide_eq_true (by first|(with_reducible assumption)|assumption)
                 have q310 : x105_3 < (t301.length : Int) := of_decide_eq_true (by first|(with_reducible assumption)|assumption)
                 obtain ⟨ad310, e310, hx310_0, hx310_1, hx310_2⟩ := at_T31 (Kd.R_reads' HO_11.out).2.2 x105_3 p310 q310
                 obtain rfl : ad308 = ad310 := (by injection e310)
                 replace p310 := eq_true p310
                 replace q310 := eq_true q310
                 have p311 : 0 ≤ (x105_3 : Int) := of_decide_eq_true (by first|(with_reducible assumption)|assumption)
                 have q311 : x105_3 < (t301.length : Int) := of_decide_eq_true (by first|(with_reducible assumption)|assumption)
                 obtain ⟨ad311, e311, hx311_0, hx311_1, hx311_2⟩ := at_T31 (Kd.R_reads' HO_11.out).2.2 x105_3 p311 q311
                 obtain rfl : ad308 = ad311 := (by injection e311)
                 replace p311 := eq_true p311
                 replace q311 := eq_true q311
                 go_wp2
                 repeat (go_quiet (fail); try go_wp2)
                 go_roundg k3
                 case measure => have := HJ5.out; have := HJ27.out; have := HK3.out; omega
                 case rel => exact ⟨(wrap64 (x105_3 + 1)), (by first | rfl | (simp; done) | (simp [*]; done)), H', ⟨by have := HJ5.out; have := HJ27.out; have := HK3.out; omega⟩, ⟨by (with_reducible repeat first|apply Kd.Ra|apply Kd.Rn|apply Kd.Rw); exact HO_9.out⟩, ⟨by (with_reducible repeat first|apply Kd.Ra|apply Kd.Rn|apply Kd.Rw); exact HO_11.out⟩, ⟨by repeat (first | (with_reducible first|exact HB.out|apply bA|apply bN|apply bD) | exact HB.out)⟩⟩
                ·rw [if_neg c47] at H
                 have c47b0 : (((rd_T31 t301 x105_3).f2) == (wrap64 (((rd_T31 t301 x105_3).f1) + 1))) = false := beq_eq_false_iff_ne.mpr c47
                 have c47b1 : (((rd_T31 t301 x105_3).f2) != (wrap64 (((rd_T31 t301 x105_3).f1) + 1))) = true := bne_iff_ne.mpr c47
                 obtain rfl := Option.some.inj H
                 have p307 : 0 ≤ (x105_3 : Int) := of_decide_eq_true (by first|(with_reducible assumption)|assumption)
                 have q307 : x105_3 < (t297.length : Int) := of_decide_eq_true (by first|(with_reducible assumption)|assumption)
                 obtain ⟨ad307, e307, hx307_0, hx307_1, hx307_2⟩ := at_T31 (Kd.R_reads' HO_9.out).2.2 x105_3 p307 q307
                 cases e307
                 replace p307 := eq_true p307
                 replace q307 := eq_true q307
                 obtain ⟨Ao49, co49, eo49⟩ := Kd.R_slice HO_11.out
                 subst eo49
                 have p308 : 0 ≤ (x105_3 : Int) := of_decide_eq_true (by first|(with_reducible assumption)|assumption)
                 have q308 : x105_3 < (t301.length : Int) := of_decide_eq_true (by first|(with_reducible assumption)|assumption)
                 obtain ⟨ad308, e308, hx308_0, hx308_1, hx308_2⟩ := at_T31 (Kd.R_reads' HO_11.out).2.2 x105_3 p308 q308
                 cases e308
                 replace p308 := eq_true p308
                 replace q308 := eq_true q308
                 have p309 : 0 ≤ (x105_3 : Int) := of_decide_eq_true (by first|(with_reducible assumption)|assumption)
                 have q309 : x105_3 < (t301.length : Int) := of_decide_eq_true (by first|(with_reducible assumption)|assumption)
                 obtain ⟨ad309, e309, hx309_0, hx309_1, hx309_2⟩ := at_T31 (Kd.R_reads' HO_11.out).2.2 x105_3 p309 q309
                 obtain rfl : ad308 = ad309 := (by injection e309)
                 replace p309 := eq_true p309
                 replace q309 := eq_true q309
                 have p310 : 0 ≤ (x105_3 : Int) := of_decide_eq_true (by first|(with_reducible assumption)|assumption)
                 have q310 : x105_3 < (t301.length : Int) := of_decide_eq_true (by first|(with_reducible assumption)|assumption)
                 obtain ⟨ad310, e310, hx310_0, hx310_1, hx310_2⟩ := at_T31 (Kd.R_reads' HO_11.out).2.2 x105_3 p310 q310
                 obtain rfl : ad308 = ad310 := (by injection e310)
                 replace p310 := eq_true p310
                 replace q310 := eq_true q310
                 have p311 : 0 ≤ (x105_3 : Int) := of_decide_eq_true (by first|(with_reducible assumption)|assumption)
                 have q311 : x105_3 < (t301.length : Int) := of_decide_eq_true (by first|(with_reducible assumption)|assumption)
                 obtain ⟨ad311, e311, hx311_0, hx311_1, hx311_2⟩ := at_T31 (Kd.R_reads' HO_11.out).2.2 x105_3 p311 q311
                 obtain rfl : ad308 = ad311 := (by injection e311)
                 replace p311 := eq_true p311
                 replace q311 := eq_true q311
                 go_wp2
                 repeat (go_quiet (fail); try go_wp2)
                 go_ret
                 exact ⟨by first | rfl | (simp [errW_none, errW_some] <;> rfl) | (simp [*, errW_none, errW_some] <;> rfl), by repeat (first | (with_reducible first|exact HB.out|apply bA|apply bN|apply bD) | exact HB.out)⟩
               ·rw [if_neg c46] at H
                have c46b0 : decide (0 ≤ ((rd_T31 t301 x105_3).f2)) = false := decide_eq_false c46
                clear c46
                have H' := Az.mk H
                clear H
                have p307 : 0 ≤ (x105_3 : Int) := of_decide_eq_true (by first|(with_reducible assumption)|assumption)
                have q307 : x105_3 < (t297.length : Int) := of_decide_eq_true (by first|(with_reducible assumption)|assumption)
                obtain ⟨ad307, e307, hx307_0, hx307_1, hx307_2⟩ := at_T31 (Kd.R_reads' HO_9.out).2.2 x105_3 p307 q307
                cases e307
                replace p307 := eq_true p307
                replace q307 := eq_true q307
                obtain ⟨Ao50, co50, eo50⟩ := Kd.R_slice HO_11.out
                subst eo50
                have p308 : 0 ≤ (x105_3 : Int) := of_decide_eq_true (by first|(with_reducible assumption)|assumption)
                have q308 : x105_3 < (t301.length : Int) := of_decide_eq_true (by first|(with_reducible assumption)|assumption)
                obtain ⟨ad308, e308, hx308_0, hx308_1, hx308_2⟩ := at_T31 (Kd.R_reads' HO_11.out).2.2 x105_3 p308 q308
                cases e308
                replace p308 := eq_true p308
                replace q308 := eq_true q308
                have p309 : 0 ≤ (x105_3 : Int) := of_decide_eq_true (by first|(with_reducible assumption)|assumption)
                have q309 : x105_3 < (t301.length : Int) := of_decide_eq_true (by first|(with_reducible assumption)|assumption)
                obtain ⟨ad309, e309, hx309_0, hx309_1, hx309_2⟩ := at_T31 (Kd.R_reads' HO_11.out).2.2 x105_3 p309 q309
                obtain rfl : ad308 = ad309 := (by injection e309)
                replace p309 := eq_true p309
                replace q309 := eq_true q309
                go_wp2
                repeat (go_quiet (fail); try go_wp2)
                go_roundg k3
                case measure => have := HJ5.out; have := HJ27.out; have := HK3.out; omega
                case rel => exact ⟨(wrap64 (x105_3 + 1)), (by first | rfl | (simp; done) | (simp [*]; done)), H', ⟨by have := HJ5.out; have := HJ27.out; have := HK3.out; omega⟩, ⟨by (with_reducible repeat first|apply Kd.Ra|apply Kd.Rn|apply Kd.Rw); exact HO_9.out⟩, ⟨by (with_reducible repeat first|apply Kd.Ra|apply Kd.Rn|apply Kd.Rw); exact HO_11.out⟩, ⟨by repeat (first | (with_reducible first|exact HB.out|apply bA|apply bN|apply bD) | exact HB.out)⟩⟩
             ·rw [if_neg c43] at H
              exact absurd H (by simp)
            ·rw [if_neg c42] at H
             exact absurd H (by simp)
           ·rw [if_neg c41] at H
            exact absurd H (by simp)
          ·rw [if_neg c40] at H
           have c40b0 : decide (x105_3 < (t297.length : Int)) = false := decide_eq_false c40
           clear c40
           replace H := Option.bind_eq_some_iff.mp H
           obtain ⟨t312, A510, H⟩ := H
           replace H : (if t312 = 0 then (if t305.toList = t290.toList then ((impl_MostAlive.f k3 t290).bind fun t313 => ((impl_MostAlive.f k3 a0).bind fun t314 => (if t313 ≤ t314 then (if t294 ≥ 0 then (if t294 > 0 then (some true) else (some (t290.toList == a0.toList))) else (some false)) else (some false)))) else (some false)) else (some false)) = some r := H
           have A51 := Az.mk A510
           clear A510
           by_cases c52 : t312 = 0
           ·rw [if_pos c52] at H
            have c52b0 : (t312 == 0) = true := beq_iff_eq.mpr c52
            have c52b1 : (t312 != 0) = false := bne_eq_false_iff_eq.mpr c52
            clear c52
            by_cases c53 : t305.toList = t290.toList
            ·rw [if_pos c53] at H
             have c53b0 : (t305.toList == t290.toList) = true := beq_iff_eq.mpr c53
             have c53b1 : (t305.toList != t290.toList) = false := bne_eq_false_iff_eq.mpr c53
             clear c53
             replace H := Option.bind_eq_some_iff.mp H
             obtain ⟨t313, A540, H⟩ := H
             replace H : ((impl_MostAlive.f k3 a0).bind fun t314 => (if t313 ≤ t314 then (if t294 ≥ 0 then (if t294 > 0 then (some true) else (some (t290.toList == a0.toList))) else (some false)) else (some false))) = some r := H
             have A54 := Az.mk A540
             clear A540
             replace H := Option.bind_eq_some_iff.mp H
             obtain ⟨t314, A550, H⟩ := H
             replace H : (if t313 ≤ t314 then (if t294 ≥ 0 then (if t294 > 0 then (some true) else (some (t290.toList == a0.toList))) else (some false)) else (some false)) = some r := H
             have A55 := Az.mk A550
             clear A550
             by_cases c56 : t313 ≤ t314
             ·rw [if_pos c56] at H
              have c56b0 : decide (t313 ≤ t314) = true := decide_eq_true c56
              clear c56
              by_cases c57 : t294 ≥ 0
              ·rw [if_pos c57] at H
               have c57b0 : decide (0 ≤ t294) = true := decide_eq_true c57
               clear c57
               by_cases c58 : t294 > 0
               ·rw [if_pos c58] at H
                have c58b0 : decide (0 < t294) = true := decide_eq_true c58
                clear c58
                obtain rfl := Option.some.inj H
                go_wp2_with (first | (go_at_call 12; (with_reducible refine (impl_IdleOf.calls k3 t290 t312 _ (HLd.out.below (by repeat first|exact HB.out|apply bA|apply bN|apply bD)) A51.out).mono ?_); rintro e w59 ⟨rfl, hb⟩; have n0_ := Az.mk (Kd.Rb (by (with_reducible repeat first|apply Kd.Ra|apply Kd.Rn|apply Kd.Rw); exact HO_9.out) hb); have n1_ := Az.mk (Kd.Rb (by (with_reducible repeat first|apply Kd.Ra|apply Kd.Rn|apply Kd.Rw); exact HO_11.out) hb); have n2_ := Az.mk (bS (by repeat first|exact HB.out|apply bA|apply bN|apply bD) hb); clear HO_9; clear HO_11; clear HB; have HO_9 := n0_; have HO_11 := n1_; have HB := n2_; clear n0_ n1_ n2_; (try clear hb); (try clear hb2); (try clear hk); (try clear hi)) | (go_at_call 15; (with_reducible refine (impl_MostAlive.calls k3 t290 t313 _ (HLd.out.below (by repeat first|exact HB.out|apply bA|apply bN|apply bD)) A54.out).mono ?_); rintro e w60 ⟨rfl, hb⟩; have n0_ := Az.mk (Kd.Rb (by (with_reducible repeat first|apply Kd.Ra|apply Kd.Rn|apply Kd.Rw); exact HO_9.out) hb); have n1_ := Az.mk (Kd.Rb (by (with_reducible repeat first|apply Kd.Ra|apply Kd.Rn|apply Kd.Rw); exact HO_11.out) hb); have n2_ := Az.mk (bS (by repeat first|exact HB.out|apply bA|apply bN|apply bD) hb); clear HO_9; clear HO_11; clear HB; have HO_9 := n0_; have HO_11 := n1_; have HB := n2_; clear n0_ n1_ n2_; (try clear hb); (try clear hb2); (try clear hk); (try clear hi)) | (go_at_call 15; (with_reducible refine (impl_MostAlive.calls k3 a0 t314 _ (HLd.out.below (by repeat first|exact HB.out|apply bA|apply bN|apply bD)) A55.out).mono ?_); rintro e w61 ⟨rfl, hb⟩; have n0_ := Az.mk (Kd.Rb (by (with_reducible repeat first|apply Kd.Ra|apply Kd.Rn|apply Kd.Rw); exact HO_9.out) hb); have n1_ := Az.mk (Kd.Rb (by (with_reducible repeat first|apply Kd.Ra|apply Kd.Rn|apply Kd.Rw); exact HO_11.out) hb); have n2_ := Az.mk (bS (by repeat first|exact HB.out|apply bA|apply bN|apply bD) hb); clear HO_9; clear HO_11; clear HB; have HO_9 := n0_; have HO_11 := n1_; have HB := n2_; clear n0_ n1_ n2_; (try clear hb); (try clear hb2); (try clear hk); (try clear hi)))
                repeat (go_quiet (first | (go_at_call 12; (with_reducible refine (impl_IdleOf.calls k3 t290 t312 _ (HLd.out.below (by repeat first|exact HB.out|apply bA|apply bN|apply bD)) A51.out).mono ?_); rintro e w59 ⟨rfl, hb⟩; have n0_ := Az.mk (Kd.Rb (by (with_reducible repeat first|apply Kd.Ra|apply Kd.Rn|apply Kd.Rw); exact HO_9.out) hb); have n1_ := Az.mk (Kd.Rb (by (with_reducible repeat first|apply Kd.Ra|apply Kd.Rn|apply Kd.Rw); exact HO_11.out) hb); have n2_ := Az.mk (bS (by repeat first|exact HB.out|apply bA|apply bN|apply bD) hb); clear HO_9; clear HO_11; clear HB; have HO_9 := n0_; have HO_11 := n1_; have HB := n2_; clear n0_ n1_ n2_; (try clear hb); (try clear hb2); (try clear hk); (try clear hi)) | (go_at_call 15; (with_reducible refine (impl_MostAlive.calls k3 t290 t313 _ (HLd.out.below (by repeat first|exact HB.out|apply bA|apply bN|apply bD)) A54.out).mono ?_); rintro e w60 ⟨rfl, hb⟩; have n0_ := Az.mk (Kd.Rb (by (with_reducible repeat first|apply Kd.Ra|apply Kd.Rn|apply Kd.Rw); exact HO_9.out) hb); have n1_ := Az.mk (Kd.Rb (by (with_reducible repeat first|apply Kd.Ra|apply Kd.Rn|apply Kd.Rw); exact HO_11.out) hb); have n2_ := Az.mk (bS (by repeat first|exact HB.out|apply bA|apply bN|apply bD) hb); clear HO_9; clear HO_11; clear HB; have HO_9 := n0_; have HO_11 := n1_; have HB := n2_; clear n0_ n1_ n2_; (try clear hb); (try clear hb2); (try clear hk); (try clear hi)) | (go_at_call 15; (with_reducible refine (impl_MostAlive.calls k3 a0 t314 _ (HLd.out.below (by repeat first|exact HB.out|apply bA|apply bN|apply bD)) A55.out).mono ?_); rintro e w61 ⟨rfl, hb⟩; have n0_ := Az.mk (Kd.Rb (by (with_reducible repeat first|apply Kd.Ra|apply Kd.Rn|apply Kd.Rw); exact HO_9.out) hb); have n1_ := Az.mk (Kd.Rb (by (with_reducible repeat first|apply Kd.Ra|apply Kd.Rn|apply Kd.Rw); exact HO_11.out) hb); have n2_ := Az.mk (bS (by repeat first|exact HB.out|apply bA|apply bN|apply bD) hb); clear HO_9; clear HO_11; clear HB; have HO_9 := n0_; have HO_11 := n1_; have HB := n2_; clear n0_ n1_ n2_; (try clear hb); (try clear hb2); (try clear hk); (try clear hi))); try go_wp2_with (first | (go_at_call 12; (with_reducible refine (impl_IdleOf.calls k3 t290 t312 _ (HLd.out.below (by repeat first|exact HB.out|apply bA|apply bN|apply bD)) A51.out).mono ?_); rintro e w59 ⟨rfl, hb⟩; have n0_ := Az.mk (Kd.Rb (by (with_reducible repeat first|apply Kd.Ra|apply Kd.Rn|apply Kd.Rw); exact HO_9.out) hb); have n1_ := Az.mk (Kd.Rb (by (with_reducible repeat first|apply Kd.Ra|apply Kd.Rn|apply Kd.Rw); exact HO_11.out) hb); have n2_ := Az.mk (bS (by repeat first|exact HB.out|apply bA|apply bN|apply bD) hb); clear HO_9; clear HO_11; clear HB; have HO_9 := n0_; have HO_11 := n1_; have HB := n2_; clear n0_ n1_ n2_; (try clear hb); (try clear hb2); (try clear hk); (try clear hi)) | (go_at_call 15; (with_reducible refine (impl_MostAlive.calls k3 t290 t313 _ (HLd.out.below (by repeat first|exact HB.out|apply bA|apply bN|apply bD)) A54.out).mono ?_); rintro e w60 ⟨rfl, hb⟩; have n0_ := Az.mk (Kd.Rb (by (with_reducible repeat first|apply Kd.Ra|apply Kd.Rn|apply Kd.Rw); exact HO_9.out) hb); have n1_ := Az.mk (Kd.Rb (by (with_reducible repeat first|apply Kd.Ra|apply Kd.Rn|apply Kd.Rw); exact HO_11.out) hb); have n2_ := Az.mk (bS (by repeat first|exact HB.out|apply bA|apply bN|apply bD) hb); clear HO_9; clear HO_11; clear HB; have HO_9 := n0_; have HO_11 := n1_; have HB := n2_; clear n0_ n1_ n2_; (try clear hb); (try clear hb2); (try clear hk); (try clear hi)) | (go_at_call 15; (with_reducible refine (impl_MostAlive.calls k3 a0 t314 _ (HLd.out.below (by repeat first|exact HB.out|apply bA|apply bN|apply bD)) A55.out).mono ?_); rintro e w61 ⟨rfl, hb⟩; have n0_ := Az.mk (Kd.Rb (by (with_reducible repeat first|apply Kd.Ra|apply Kd.Rn|apply Kd.Rw); exact HO_9.out) hb); have n1_ := Az.mk (Kd.Rb (by (with_reducible repeat first|apply Kd.Ra|apply Kd.Rn|apply Kd.Rw); exact HO_11.out) hb); have n2_ := Az.mk (bS (by repeat first|exact HB.out|apply bA|apply bN|apply bD) hb); clear HO_9; clear HO_11; clear HB; have HO_9 := n0_; have HO_11 := n1_; have HB := n2_; clear n0_ n1_ n2_; (try clear hb); (try clear hb2); (try clear hk); (try clear hi))))
                go_ret
                exact ⟨by first | rfl | (simp [errW_none, errW_some] <;> rfl) | (simp [*, errW_none, errW_some] <;> rfl), by repeat (first | (with_reducible first|exact HB.out|apply bA|apply bN|apply bD) | exact HB.out)⟩
               ·rw [if_neg c58] at H
                have c58b0 : decide (0 < t294) = false := decide_eq_false c58
                clear c58
                obtain rfl := Option.some.inj H
                go_wp2_with (first | (go_at_call 12; (with_reducible refine (impl_IdleOf.calls k3 t290 t312 _ (HLd.out.below (by repeat first|exact HB.out|apply bA|apply bN|apply bD)) A51.out).mono ?_); rintro e w62 ⟨rfl, hb⟩; have n0_ := Az.mk (Kd.Rb (by (with_reducible repeat first|apply Kd.Ra|apply Kd.Rn|apply Kd.Rw); exact HO_9.out) hb); have n1_ := Az.mk (Kd.Rb (by (with_reducible repeat first|apply Kd.Ra|apply Kd.Rn|apply Kd.Rw); exact HO_11.out) hb); have n2_ := Az.mk (bS (by repeat first|exact HB.out|apply bA|apply bN|apply bD) hb); clear HO_9; clear HO_11; clear HB; have HO_9 := n0_; have HO_11 := n1_; have HB := n2_; clear n0_ n1_ n2_; (try clear hb); (try clear hb2); (try clear hk); (try clear hi)) | (go_at_call 15; (with_reducible refine (impl_MostAlive.calls k3 t290 t313 _ (HLd.out.below (by repeat first|exact HB.out|apply bA|apply bN|apply bD)) A54.out).mono ?_); rintro e w63 ⟨rfl, hb⟩; have n0_ := Az.mk (Kd.Rb (by (with_reducible repeat first|apply Kd.Ra|apply Kd.Rn|apply Kd.Rw); exact HO_9.out) hb); have n1_ := Az.mk (Kd.Rb (by (with_reducible repeat first|apply Kd.Ra|apply Kd.Rn|apply Kd.Rw); exact HO_11.out) hb); have n2_ := Az.mk (bS (by repeat first|exact HB.out|apply bA|apply bN|apply bD) hb); clear HO_9; clear HO_11; clear HB; have HO_9 := n0_; have HO_11 := n1_; have HB := n2_; clear n0_ n1_ n2_; (try clear hb); (try clear hb2); (try clear hk); (try clear hi)) | (go_at_call 15; (with_reducible refine (impl_MostAlive.calls k3 a0 t314 _ (HLd.out.below (by repeat first|exact HB.out|apply bA|apply bN|apply bD)) A55.out).mono ?_); rintro e w64 ⟨rfl, hb⟩; have n0_ := Az.mk (Kd.Rb (by (with_reducible repeat first|apply Kd.Ra|apply Kd.Rn|apply Kd.Rw); exact HO_9.out) hb); have n1_ := Az.mk (Kd.Rb (by (with_reducible repeat first|apply Kd.Ra|apply Kd.Rn|apply Kd.Rw); exact HO_11.out) hb); have n2_ := Az.mk (bS (by repeat first|exact HB.out|apply bA|apply bN|apply bD) hb); clear HO_9; clear HO_11; clear HB; have HO_9 := n0_; have HO_11 := n1_; have HB := n2_; clear n0_ n1_ n2_; (try clear hb); (try clear hb2); (try clear hk); (try clear hi)))
                repeat (go_quiet (first | (go_at_call 12; (with_reducible refine (impl_IdleOf.calls k3 t290 t312 _ (HLd.out.below (by repeat first|exact HB.out|apply bA|apply bN|apply bD)) A51.out).mono ?_); rintro e w62 ⟨rfl, hb⟩; have n0_ := Az.mk (Kd.Rb (by (with_reducible repeat first|apply Kd.Ra|apply Kd.Rn|apply Kd.Rw); exact HO_9.out) hb); have n1_ := Az.mk (Kd.Rb (by (with_reducible repeat first|apply Kd.Ra|apply Kd.Rn|apply Kd.Rw); exact HO_11.out) hb); have n2_ := Az.mk (bS (by repeat first|exact HB.out|apply bA|apply bN|apply bD) hb); clear HO_9; clear HO_11; clear HB; have HO_9 := n0_; have HO_11 := n1_; have HB := n2_; clear n0_ n1_ n2_; (try clear hb); (try clear hb2); (try clear hk); (try clear hi)) | (go_at_call 15; (with_reducible refine (impl_MostAlive.calls k3 t290 t313 _ (HLd.out.below (by repeat first|exact HB.out|apply bA|apply bN|apply bD)) A54.out).mono ?_); rintro e w63 ⟨rfl, hb⟩; have n0_ := Az.mk (Kd.Rb (by (with_reducible repeat first|apply Kd.Ra|apply Kd.Rn|apply Kd.Rw); exact HO_9.out) hb); have n1_ := Az.mk (Kd.Rb (by (with_reducible repeat first|apply Kd.Ra|apply Kd.Rn|apply Kd.Rw); exact HO_11.out) hb); have n2_ := Az.mk (bS (by repeat first|exact HB.out|apply bA|apply bN|apply bD) hb); clear HO_9; clear HO_11; clear HB; have HO_9 := n0_; have HO_11 := n1_; have HB := n2_; clear n0_ n1_ n2_; (try clear hb); (try clear hb2); (try clear hk); (try clear hi)) | (go_at_call 15; (with_reducible refine (impl_MostAlive.calls k3 a0 t314 _ (HLd.out.below (by repeat first|exact HB.out|apply bA|apply bN|apply bD)) A55.out).mono ?_); rintro e w64 ⟨rfl, hb⟩; have n0_ := Az.mk (Kd.Rb (by (with_reducible repeat first|apply Kd.Ra|apply Kd.Rn|apply Kd.Rw); exact HO_9.out) hb); have n1_ := Az.mk (Kd.Rb (by (with_reducible repeat first|apply Kd.Ra|apply Kd.Rn|apply Kd.Rw); exact HO_11.out) hb); have n2_ := Az.mk (bS (by repeat first|exact HB.out|apply bA|apply bN|apply bD) hb); clear HO_9; clear HO_11; clear HB; have HO_9 := n0_; have HO_11 := n1_; have HB := n2_; clear n0_ n1_ n2_; (try clear hb); (try clear hb2); (try clear hk); (try clear hi))); try go_wp2_with (first | (go_at_call 12; (with_reducible refine (impl_IdleOf.calls k3 t290 t312 _ (HLd.out.below (by repeat first|exact HB.out|apply bA|apply bN|apply bD)) A51.out).mono ?_); rintro e w62 ⟨rfl, hb⟩; have n0_ := Az.mk (Kd.Rb (by (with_reducible repeat first|apply Kd.Ra|apply Kd.Rn|apply Kd.Rw); exact HO_9.out) hb); have n1_ := Az.mk (Kd.Rb (by (with_reducible repeat first|apply Kd.Ra|apply Kd.Rn|apply Kd.Rw); exact HO_11.out) hb); have n2_ := Az.mk (bS (by repeat first|exact HB.out|apply bA|apply bN|apply bD) hb); clear HO_9; clear HO_11; clear HB; have HO_9 := n0_; have HO_11 := n1_; have HB := n2_; clear n0_ n1_ n2_; (try clear hb); (try clear hb2); (try clear hk); (try clear hi)) | (go_at_call 15; (with_reducible refine (impl_MostAlive.calls k3 t290 t313 _ (HLd.out.below (by repeat first|exact HB.out|apply bA|apply bN|apply bD)) A54.out).mono ?_); rintro e w63 ⟨rfl, hb⟩; have n0_ := Az.mk (Kd.Rb (by (with_reducible repeat first|apply Kd.Ra|apply Kd.Rn|apply Kd.Rw); exact HO_9.out) hb); have n1_ := Az.mk (Kd.Rb (by (with_reducible repeat first|apply Kd.Ra|apply Kd.Rn|apply Kd.Rw); exact HO_11.out) hb); have n2_ := Az.mk (bS (by repeat first|exact HB.out|apply bA|apply bN|apply bD) hb); clear HO_9; clear HO_11; clear HB; have HO_9 := n0_; have HO_11 := n1_; have HB := n2_; clear n0_ n1_ n2_; (try clear hb); (try clear hb2); (try clear hk); (try clear hi)) | (go_at_call 15; (with_reducible refine (impl_MostAlive.calls k3 a0 t314 _ (HLd.out.below (by repeat first|exact HB.out|apply bA|apply bN|apply bD)) A55.out).mono ?_); rintro e w64 ⟨rfl, hb⟩; have n0_ := Az.mk (Kd.Rb (by (with_reducible repeat first|apply Kd.Ra|apply Kd.Rn|apply Kd.Rw); exact HO_9.out) hb); have n1_ := Az.mk (Kd.Rb (by (with_reducible repeat first|apply Kd.Ra|apply Kd.Rn|apply Kd.Rw); exact HO_11.out) hb); have n2_ := Az.mk (bS (by repeat first|exact HB.out|apply bA|apply bN|apply bD) hb); clear HO_9; clear HO_11; clear HB; have HO_9 := n0_; have HO_11 := n1_; have HB := n2_; clear n0_ n1_ n2_; (try clear hb); (try clear hb2); (try clear hk); (try clear hi))))
                go_ret
                exact ⟨by first | rfl | (simp [errW_none, errW_some] <;> rfl) | (simp [*, errW_none, errW_some] <;> rfl), by repeat (first | (with_reducible first|exact HB.out|apply bA|apply bN|apply bD) | exact HB.out)⟩
              ·rw [if_neg c57] at H
               have c57b0 : decide (0 ≤ t294) = false := decide_eq_false c57
               clear c57
               obtain rfl := Option.some.inj H
               go_wp2_with (first | (go_at_call 12; (with_reducible refine (impl_IdleOf.calls k3 t290 t312 _ (HLd.out.below (by repeat first|exact HB.out|apply bA|apply bN|apply bD)) A51.out).mono ?_); rintro e w65 ⟨rfl, hb⟩; have n0_ := Az.mk (Kd.Rb (by (with_reducible repeat first|apply Kd.Ra|apply Kd.Rn|apply Kd.Rw); exact HO_9.out) hb); have n1_ := Az.mk (Kd.Rb (by (with_reducible repeat first|apply Kd.Ra|apply Kd.Rn|apply Kd.Rw); exact HO_11.out) hb); have n2_ := Az.mk (bS (by repeat first|exact HB.out|apply bA|apply bN|apply bD) hb); clear HO_9; clear HO_11; clear HB; have HO_9 := n0_; have HO_11 := n1_; have HB := n2_; clear n0_ n1_ n2_; (try clear hb); (try clear hb2); (try clear hk); (try clear hi)) | (go_at_call 15; (with_reducible refine (impl_MostAlive.calls k3 t290 t313 _ (HLd.out.below (by repeat first|exact HB.out|apply bA|apply bN|apply bD)) A54.out).mono ?_); rintro e w66 ⟨rfl, hb⟩; have n0_ := Az.mk (Kd.Rb (by (with_reducible repeat first|apply Kd.Ra|apply Kd.Rn|apply Kd.Rw); exact HO_9.out) hb); have n1_ := Az.mk (Kd.Rb (by (with_reducible repeat first|apply Kd.Ra|apply Kd.Rn|apply Kd.Rw); exact HO_11.out) hb); have n2_ := Az.mk (bS (by repeat first|exact HB.out|apply bA|apply bN|apply bD) hb); clear HO_9; clear HO_11; clear HB; have HO_9 := n0_; have HO_11 := n1_; have HB := n2_; clear n0_ n1_ n2_; (try clear hb); (try clear hb2); (try clear hk); (try clear hi)) | (go_at_call 15; (with_reducible refine (impl_MostAlive.calls k3 a0 t314 _ (HLd.out.below (by repeat first|exact HB.out|apply bA|apply bN|apply bD)) A55.out).mono ?_); rintro e w67 ⟨rfl, hb⟩; have n0_ := Az.mk (Kd.Rb (by (with_reducible repeat first|apply Kd.Ra|apply Kd.Rn|apply Kd.Rw); exact HO_9.out) hb); have n1_ := Az.mk (Kd.Rb (by (with_reducible repeat first|apply Kd.Ra|apply Kd.Rn|apply Kd.Rw); exact HO_11.out) hb); have n2_ := Az.mk (bS (by repeat first|exact HB.out|apply bA|apply bN|apply bD) hb); clear HO_9; clear HO_11; clear HB; have HO_9 := n0_; have HO_11 := n1_; have HB := n2_; clear n0_ n1_ n2_; (try clear hb); (try clear hb2); (try clear hk); (try clear hi)))
               repeat (go_quiet (first | (go_at_call 12; (with_reducible refine (impl_IdleOf.calls k3 t290 t312 _ (HLd.out.below (by repeat first|exact HB.out|apply bA|apply bN|apply bD)) A51.out).mono ?_); rintro e w65 ⟨rfl, hb⟩; have n0_ := Az.mk (Kd.Rb (by (with_reducible repeat first|apply Kd.Ra|apply Kd.Rn|apply Kd.Rw); exact HO_9.out) hb); have n1_ := Az.mk (Kd.Rb (by (with_reducible repeat first|apply Kd.Ra|apply Kd.Rn|apply Kd.Rw); exact HO_11.out) hb); have n2_ := Az.mk (bS (by repeat first|exact HB.out|apply bA|apply bN|apply bD) hb); clear HO_9; clear HO_11; clear HB; have HO_9 := n0_; have HO_11 := n1_; have HB := n2_; clear n0_ n1_ n2_; (try clear hb); (try clear hb2); (try clear hk); (try clear hi)) | (go_at_call 15; (with_reducible refine (impl_MostAlive.calls k3 t290 t313 _ (HLd.out.below (by repeat first|exact HB.out|apply bA|apply bN|apply bD)) A54.out).mono ?_); rintro e w66 ⟨rfl, hb⟩; have n0_ := Az.mk (Kd.Rb (by (with_reducible repeat first|apply Kd.Ra|apply Kd.Rn|apply Kd.Rw); exact HO_9.out) hb); have n1_ := Az.mk (Kd.Rb (by (with_reducible repeat first|apply Kd.Ra|apply Kd.Rn|apply Kd.Rw); exact HO_11.out) hb); have n2_ := Az.mk (bS (by repeat first|exact HB.out|apply bA|apply bN|apply bD) hb); clear HO_9; clear HO_11; clear HB; have HO_9 := n0_; have HO_11 := n1_; have HB := n2_; clear n0_ n1_ n2_; (try clear hb); (try clear hb2); (try clear hk); (try clear hi)) | (go_at_call 15; (with_reducible refine (impl_MostAlive.calls k3 a0 t314 _ (HLd.out.below (by repeat first|exact HB.out|apply bA|apply bN|apply bD)) A55.out).mono ?_); rintro e w67 ⟨rfl, hb⟩; have n0_ := Az.mk (Kd.Rb (by (with_reducible repeat first|apply Kd.Ra|apply Kd.Rn|apply Kd.Rw); exact HO_9.out) hb); have n1_ := Az.mk (Kd.Rb (by (with_reducible repeat first|apply Kd.Ra|apply Kd.Rn|apply Kd.Rw); exact HO_11.out) hb); have n2_ := Az.mk (bS (by repeat first|exact HB.out|apply bA|apply bN|apply bD) hb); clear HO_9; clear HO_11; clear HB; have HO_9 := n0_; have HO_11 := n1_; have HB := n2_; clear n0_ n1_ n2_; (try clear hb); (try clear hb2); (try clear hk); (try clear hi))); try go_wp2_with (first | (go_at_call 12; (with_reducible refine (impl_IdleOf.calls k3 t290 t312 _ (HLd.out.below (by repeat first|exact HB.out|apply bA|apply bN|apply bD)) A51.out).mono ?_); rintro e w65 ⟨rfl, hb⟩; have n0_ := Az.mk (Kd.Rb (by (with_reducible repeat first|apply Kd.Ra|apply Kd.Rn|apply Kd.Rw); exact HO_9.out) hb); have n1_ := Az.mk (Kd.Rb (by (with_reducible repeat first|apply Kd.Ra|apply Kd.Rn|apply Kd.Rw); exact HO_11.out) hb); have n2_ := Az.mk (bS (by repeat first|exact HB.out|apply bA|apply bN|apply bD) hb); clear HO_9; clear HO_11; clear HB; have HO_9 := n0_; have HO_11 := n1_; have HB := n2_; clear n0_ n1_ n2_; (try clear hb); (try clear hb2); (try clear hk); (try clear hi)) | (go_at_call 15; (with_reducible refine (impl_MostAlive.calls k3 t290 t313 _ (HLd.out.below (by repeat first|exact HB.out|apply bA|apply bN|apply bD)) A54.out).mono ?_); rintro e w66 ⟨rfl, hb⟩; have n0_ := Az.mk (Kd.Rb (by (with_reducible repeat first|apply Kd.Ra|apply Kd.Rn|apply Kd.Rw); exact HO_9.out) hb); have n1_ := Az.mk (Kd.Rb (by (with_reducible repeat first|apply Kd.Ra|apply Kd.Rn|apply Kd.Rw); exact HO_11.out) hb); have n2_ := Az.mk (bS (by repeat first|exact HB.out|apply bA|apply bN|apply bD) hb); clear HO_9; clear HO_11; clear HB; have HO_9 := n0_; have HO_11 := n1_; have HB := n2_; clear n0_ n1_ n2_; (try clear hb); (try clear hb2); (try clear hk); (try clear hi)) | (go_at_call 15; (with_reducible refine (impl_MostAlive.calls k3 a0 t314 _ (HLd.out.below (by repeat first|exact HB.out|apply bA|apply bN|apply bD)) A55.out).mono ?_); rintro e w67 ⟨rfl, hb⟩; have n0_ := Az.mk (Kd.Rb (by (with_reducible repeat first|apply Kd.Ra|apply Kd.Rn|apply Kd.Rw); exact HO_9.out) hb); have n1_ := Az.mk (Kd.Rb (by (with_reducible repeat first|apply Kd.Ra|apply Kd.Rn|apply Kd.Rw); exact HO_11.out) hb); have n2_ := Az.mk (bS (by repeat first|exact HB.out|apply bA|apply bN|apply bD) hb); clear HO_9; clear HO_11; clear HB; have HO_9 := n0_; have HO_11 := n1_; have HB := n2_; clear n0_ n1_ n2_; (try clear hb); (try clear hb2); (try clear hk); (try clear hi))))
               go_ret
               exact ⟨by first | rfl | (simp [errW_none, errW_some] <;> rfl) | (simp [*, errW_none, errW_some] <;> rfl), by repeat (first | (with_reducible first|exact HB.out|apply bA|apply bN|apply bD) | exact HB.out)⟩
             ·rw [if_neg c56] at H
              have c56b0 : decide (t313 ≤ t314) = false := decide_eq_false c56
              clear c56
              obtain rfl := Option.some.inj H
              go_wp2_with (first | (go_at_call 12; (with_reducible refine (impl_IdleOf.calls k3 t290 t312 _ (HLd.out.below (by repeat first|exact HB.out|apply bA|apply bN|apply bD)) A51.out).mono ?_); rintro e w68 ⟨rfl, hb⟩; have n0_ := Az.mk (Kd.Rb (by (with_reducible repeat first|apply Kd.Ra|apply Kd.Rn|apply Kd.Rw); exact HO_9.out) hb); have n1_ := Az.mk (Kd.Rb (by (with_reducible repeat first|apply Kd.Ra|apply Kd.Rn|apply Kd.Rw); exact HO_11.out) hb); have n2_ := Az.mk (bS (by repeat first|exact HB.out|apply bA|apply bN|apply bD) hb); clear HO_9; clear HO_11; clear HB; have HO_9 := n0_; have HO_11 := n1_; have HB := n2_; clear n0_ n1_ n2_; (try clear hb); (try clear hb2); (try clear hk); (try clear hi)) | (go_at_call 15; (with_reducible refine (impl_MostAlive.calls k3 t290 t313 _ (HLd.out.below (by repeat first|exact HB.out|apply bA|apply bN|apply bD)) A54.out).mono ?_); rintro e w69 ⟨rfl, hb⟩; have n0_ := Az.mk (Kd.Rb (by (with_reducible repeat first|apply Kd.Ra|apply Kd.Rn|apply Kd.Rw); exact HO_9.out) hb); have n1_ := Az.mk (Kd.Rb (by (with_reducible repeat first|apply Kd.Ra|apply Kd.Rn|apply Kd.Rw); exact HO_11.out) hb); have n2_ := Az.mk (bS (by repeat first|exact HB.out|apply bA|apply bN|apply bD) hb); clear HO_9; clear HO_11; clear HB; have HO_9 := n0_; have HO_11 := n1_; have HB := n2_; clear n0_ n1_ n2_; (try clear hb); (try clear hb2); (try clear hk); (try clear hi)) | (go_at_call 15; (with_reducible refine (impl_MostAlive.calls k3 a0 t314 _ (HLd.out.below (by repeat first|exact HB.out|apply bA|apply bN|apply bD)) A55.out).mono ?_); rintro e w70 ⟨rfl, hb⟩; have n0_ := Az.mk (Kd.Rb (by (with_reducible repeat first|apply Kd.Ra|apply Kd.Rn|apply Kd.Rw); exact HO_9.out) hb); have n1_ := Az.mk (Kd.Rb (by (with_reducible repeat first|apply Kd.Ra|apply Kd.Rn|apply Kd.Rw); exact HO_11.out) hb); have n2_ := Az.mk (bS (by repeat first|exact HB.out|apply bA|apply bN|apply bD) hb); clear HO_9; clear HO_11; clear HB; have HO_9 := n0_; have HO_11 := n1_; have HB := n2_; clear n0_ n1_ n2_; (try clear hb); (try clear hb2); (try clear hk); (try clear hi)))
              repeat (go_quiet (first | (go_at_call 12; (with_reducible refine (impl_IdleOf.calls k3 t290 t312 _ (HLd.out.below (by repeat first|exact HB.out|apply bA|apply bN|apply bD)) A51.out).mono ?_); rintro e w68 ⟨rfl, hb⟩; have n0_ := Az.mk (Kd.Rb (by (with_reducible repeat first|apply Kd.Ra|apply Kd.Rn|apply Kd.Rw); exact HO_9.out) hb); have n1_ := Az.mk (Kd.Rb (by (with_reducible repeat first|apply Kd.Ra|apply Kd.Rn|apply Kd.Rw); exact HO_11.out) hb); have n2_ := Az.mk (bS (by repeat first|exact HB.out|apply bA|apply bN|apply bD) hb); clear HO_9; clear HO_11; clear HB; have HO_9 := n0_; have HO_11 := n1_; have HB := n2_; clear n0_ n1_ n2_; (try clear hb); (try clear hb2); (try clear hk); (try clear hi)) | (go_at_call 15; (with_reducible refine (impl_MostAlive.calls k3 t290 t313 _ (HLd.out.below (by repeat first|exact HB.out|apply bA|apply bN|apply bD)) A54.out).mono ?_); rintro e w69 ⟨rfl, hb⟩; have n0_ := Az.mk (Kd.Rb (by (with_reducible repeat first|apply Kd.Ra|apply Kd.Rn|apply Kd.Rw); exact HO_9.out) hb); have n1_ := Az.mk (Kd.Rb (by (with_reducible repeat first|apply Kd.Ra|apply Kd.Rn|apply Kd.Rw); exact HO_11.out) hb); have n2_ := Az.mk (bS (by repeat first|exact HB.out|apply bA|apply bN|apply bD) hb); clear HO_9; clear HO_11; clear HB; have HO_9 := n0_; have HO_11 := n1_; have HB := n2_; clear n0_ n1_ n2_; (try clear hb); (try clear hb2); (try clear hk); (try clear hi)) | (go_at_call 15; (with_reducible refine (impl_MostAlive.calls k3 a0 t314 _ (HLd.out.below (by repeat first|exact HB.out|apply bA|apply bN|apply bD)) A55.out).mono ?_); rintro e w70 ⟨rfl, hb⟩; have n0_ := Az.mk (Kd.Rb (by (with_reducible repeat first|apply Kd.Ra|apply Kd.Rn|apply Kd.Rw); exact HO_9.out) hb); have n1_ := Az.mk (Kd.Rb (by (with_reducible repeat first|apply Kd.Ra|apply Kd.Rn|apply Kd.Rw); exact HO_11.out) hb); have n2_ := Az.mk (bS (by repeat first|exact HB.out|apply bA|apply bN|apply bD) hb); clear HO_9; clear HO_11; clear HB; have HO_9 := n0_; have HO_11 := n1_; have HB := n2_; clear n0_ n1_ n2_; (try clear hb); (try clear hb2); (try clear hk); (try clear hi))); try go_wp2_with (first | (go_at_call 12; (with_reducible refine (impl_IdleOf.calls k3 t290 t312 _ (HLd.out.below (by repeat first|exact HB.out|apply bA|apply bN|apply bD)) A51.out).mono ?_); rintro e w68 ⟨rfl, hb⟩; have n0_ := Az.mk (Kd.Rb (by (with_reducible repeat first|apply Kd.Ra|apply Kd.Rn|apply Kd.Rw); exact HO_9.out) hb); have n1_ := Az.mk (Kd.Rb (by (with_reducible repeat first|apply Kd.Ra|apply Kd.Rn|apply Kd.Rw); exact HO_11.out) hb); have n2_ := Az.mk (bS (by repeat first|exact HB.out|apply bA|apply bN|apply bD) hb); clear HO_9; clear HO_11; clear HB; have HO_9 := n0_; have HO_11 := n1_; have HB := n2_; clear n0_ n1_ n2_; (try clear hb); (try clear hb2); (try clear hk); (try clear hi)) | (go_at_call 15; (with_reducible refine (impl_MostAlive.calls k3 t290 t313 _ (HLd.out.below (by repeat first|exact HB.out|apply bA|apply bN|apply bD)) A54.out).mono ?_); rintro e w69 ⟨rfl, hb⟩; have n0_ := Az.mk (Kd.Rb (by (with_reducible repeat first|apply Kd.Ra|apply Kd.Rn|apply Kd.Rw); exact HO_9.out) hb); have n1_ := Az.mk (Kd.Rb (by (with_reducible repeat first|apply Kd.Ra|apply Kd.Rn|apply Kd.Rw); exact HO_11.out) hb); have n2_ := Az.mk (bS (by repeat first|exact HB.out|apply bA|apply bN|apply bD) hb); clear HO_9; clear HO_11; clear HB; have HO_9 := n0_; have HO_11 := n1_; have HB := n2_; clear n0_ n1_ n2_; (try clear hb); (try clear hb2); (try clear hk); (try clear hi)) | (go_at_call 15; (with_reducible refine (impl_MostAlive.calls k3 a0 t314 _ (HLd.out.below (by repeat first|exact HB.out|apply bA|apply bN|apply bD)) A55.out).mono ?_); rintro e w70 ⟨rfl, hb⟩; have n0_ := Az.mk (Kd.Rb (by (with_reducible repeat first|apply Kd.Ra|apply Kd.Rn|apply Kd.Rw); exact HO_9.out) hb); have n1_ := Az.mk (Kd.Rb (by (with_reducible repeat first|apply Kd.Ra|apply Kd.Rn|apply Kd.Rw); exact HO_11.out) hb); have n2_ := Az.mk (bS (by repeat first|exact HB.out|apply bA|apply bN|apply bD) hb); clear HO_9; clear HO_11; clear HB; have HO_9 := n0_; have HO_11 := n1_; have HB := n2_; clear n0_ n1_ n2_; (try clear hb); (try clear hb2); (try clear hk); (try clear hi))))
              go_ret
              exact ⟨by first | rfl | (simp [errW_none, errW_some] <;> rfl) | (simp [*, errW_none, errW_some] <;> rfl), by repeat (first | (with_reducible first|exact HB.out|apply bA|apply bN|apply bD) | exact HB.out)⟩
            ·rw [if_neg c53] at H
             have c53b0 : (t305.toList == t290.toList) = false := beq_eq_false_iff_ne.mpr c53
             have c53b1 : (t305.toList != t290.toList) = true := bne_iff_ne.mpr c53
             obtain rfl := Option.some.inj H
             go_wp2_with (first | (go_at_call 12; (with_reducible refine (impl_IdleOf.calls k3 t290 t312 _ (HLd.out.below (by repeat first|exact HB.out|apply bA|apply bN|apply bD)) A51.out).mono ?_); rintro e w71 ⟨rfl, hb⟩; have n0_ := Az.mk (Kd.Rb (by (with_reducible repeat first|apply Kd.Ra|apply Kd.Rn|apply Kd.Rw); exact HO_9.out) hb); have n1_ := Az.mk (Kd.Rb (by (with_reducible repeat first|apply Kd.Ra|apply Kd.Rn|apply Kd.Rw); exact HO_11.out) hb); have n2_ := Az.mk (bS (by repeat first|exact HB.out|apply bA|apply bN|apply bD) hb); clear HO_9; clear HO_11; clear HB; have HO_9 := n0_; have HO_11 := n1_; have HB := n2_; clear n0_ n1_ n2_; (try clear hb); (try clear hb2); (try clear hk); (try clear hi)))
             repeat (go_quiet (first | (go_at_call 12; (with_reducible refine (impl_IdleOf.calls k3 t290 t312 _ (HLd.out.below (by repeat first|exact HB.out|apply bA|apply bN|apply bD)) A51.out).mono ?_); rintro e w71 ⟨rfl, hb⟩; have n0_ := Az.mk (Kd.Rb (by (with_reducible repeat first|apply Kd.Ra|apply Kd.Rn|apply Kd.Rw); exact HO_9.out) hb); have n1_ := Az.mk (Kd.Rb (by (with_reducible repeat first|apply Kd.Ra|apply Kd.Rn|apply Kd.Rw); exact HO_11.out) hb); have n2_ := Az.mk (bS (by repeat first|exact HB.out|apply bA|apply bN|apply bD) hb); clear HO_9; clear HO_11; clear HB; have HO_9 := n0_; have HO_11 := n1_; have HB := n2_; clear n0_ n1_ n2_; (try clear hb); (try clear hb2); (try clear hk); (try clear hi))); try go_wp2_with (first | (go_at_call 12; (with_reducible refine (impl_IdleOf.calls k3 t290 t312 _ (HLd.out.below (by repeat first|exact HB.out|apply bA|apply bN|apply bD)) A51.out).mono ?_); rintro e w71 ⟨rfl, hb⟩; have n0_ := Az.mk (Kd.Rb (by (with_reducible repeat first|apply Kd.Ra|apply Kd.Rn|apply Kd.Rw); exact HO_9.out) hb); have n1_ := Az.mk (Kd.Rb (by (with_reducible repeat first|apply Kd.Ra|apply Kd.Rn|apply Kd.Rw); exact HO_11.out) hb); have n2_ := Az.mk (bS (by repeat first|exact HB.out|apply bA|apply bN|apply bD) hb); clear HO_9; clear HO_11; clear HB; have HO_9 := n0_; have HO_11 := n1_; have HB := n2_; clear n0_ n1_ n2_; (try clear hb); (try clear hb2); (try clear hk); (try clear hi))))
             go_ret
             exact ⟨by first | rfl | (simp [errW_none, errW_some] <;> rfl) | (simp [*, errW_none, errW_some] <;> rfl), by repeat (first | (with_reducible first|exact HB.out|apply bA|apply bN|apply bD) | exact HB.out)⟩
           ·rw [if_neg c52] at H
            have c52b0 : (t312 == 0) = false := beq_eq_false_iff_ne.mpr c52
            have c52b1 : (t312 != 0) = true := bne_iff_ne.mpr c52
            obtain rfl := Option.some.inj H
            go_wp2_with (first | (go_at_call 12; (with_reducible refine (impl_IdleOf.calls k3 t290 t312 _ (HLd.out.below (by repeat first|exact HB.out|apply bA|apply bN|apply bD)) A51.out).mono ?_); rintro e w72 ⟨rfl, hb⟩; have n0_ := Az.mk (Kd.Rb (by (with_reducible repeat first|apply Kd.Ra|apply Kd.Rn|apply Kd.Rw); exact HO_9.out) hb); have n1_ := Az.mk (Kd.Rb (by (with_reducible repeat first|apply Kd.Ra|apply Kd.Rn|apply Kd.Rw); exact HO_11.out) hb); have n2_ := Az.mk (bS (by repeat first|exact HB.out|apply bA|apply bN|apply bD) hb); clear HO_9; clear HO_11; clear HB; have HO_9 := n0_; have HO_11 := n1_; have HB := n2_; clear n0_ n1_ n2_; (try clear hb); (try clear hb2); (try clear hk); (try clear hi)))
            repeat (go_quiet (first | (go_at_call 12; (with_reducible refine (impl_IdleOf.calls k3 t290 t312 _ (HLd.out.below (by repeat first|exact HB.out|apply bA|apply bN|apply bD)) A51.out).mono ?_); rintro e w72 ⟨rfl, hb⟩; have n0_ := Az.mk (Kd.Rb (by (with_reducible repeat first|apply Kd.Ra|apply Kd.Rn|apply Kd.Rw); exact HO_9.out) hb); have n1_ := Az.mk (Kd.Rb (by (with_reducible repeat first|apply Kd.Ra|apply Kd.Rn|apply Kd.Rw); exact HO_11.out) hb); have n2_ := Az.mk (bS (by repeat first|exact HB.out|apply bA|apply bN|apply bD) hb); clear HO_9; clear HO_11; clear HB; have HO_9 := n0_; have HO_11 := n1_; have HB := n2_; clear n0_ n1_ n2_; (try clear hb); (try clear hb2); (try clear hk); (try clear hi))); try go_wp2_with (first | (go_at_call 12; (with_reducible refine (impl_IdleOf.calls k3 t290 t312 _ (HLd.out.below (by repeat first|exact HB.out|apply bA|apply bN|apply bD)) A51.out).mono ?_); rintro e w72 ⟨rfl, hb⟩; have n0_ := Az.mk (Kd.Rb (by (with_reducible repeat first|apply Kd.Ra|apply Kd.Rn|apply Kd.Rw); exact HO_9.out) hb); have n1_ := Az.mk (Kd.Rb (by (with_reducible repeat first|apply Kd.Ra|apply Kd.Rn|apply Kd.Rw); exact HO_11.out) hb); have n2_ := Az.mk (bS (by repeat first|exact HB.out|apply bA|apply bN|apply bD) hb); clear HO_9; clear HO_11; clear HB; have HO_9 := n0_; have HO_11 := n1_; have HB := n2_; clear n0_ n1_ n2_; (try clear hb); (try clear hb2); (try clear hk); (try clear hi))))
            go_ret
            exact ⟨by first | rfl | (simp [errW_none, errW_some] <;> rfl) | (simp [*, errW_none, errW_some] <;> rfl), by repeat (first | (with_reducible first|exact HB.out|apply bA|apply bN|apply bD) | exact HB.out)⟩
def laws_FnEarly.Pure : Prop := ∀ (a0 : ByteArray), a0.size ≤ 900000 → ∃ k, laws_FnEarly.f k a0 = some true
end Go.Proofs.YtndjbnkmhpbnpaaGreatDoor.Pr
namespace Go.Proofs.YtndjbnkmhpbnpaaGreatDoor.Pr
open Go.RowKit Go.Proofs.YtndjbnkmhpbnpaaGreatDoorW.PrintWords Go.Proofs.YtndjbnkmhpbnpaaGreatDoorW.PrintLast Go.Proofs.YtndjbnkmhpbnpaaGreatDoorW.PrintMore
set_option linter.unusedVariables false
set_option linter.unusedSimpArgs false
theorem early_l0 {a0 t : ByteArray} {o E : List S55} {m : Nat} (X : EarlyTx a0 t o E m) (hs : a0.size ≤ 1048576) : ∀ (d i : Nat), i + d = m →
  Ev (fun k => laws_FnEarly.l0 k a0 t (idleOf a0) (lvs o) (lvs E) t ((lvs o).length : Int) (i : Int)) true
 | 0, i, hi => by
  obtain ⟨l, g⟩ := X.good
  obtain ⟨l', gE⟩ := X.goodE
  have h1 := g.lvs_length
  have hid : idleOf t = 0 := by
   unfold idleOf
   rw [X.toldE]
   simp only [if_true]
   exact gE.prompt_iff.2 X.prompt
  have hido : idleOf a0 = idl (lvs o) 0 := by
   unfold idleOf
   rw [X.told]
   simp only [if_true]
  have hge := idl_ge (lvs o) 0 g.ordered
  refine Ev.step (fun k => laws_FnEarly.l0.eq_2 (k := k) ..) ?_
  simp only [if_neg (show ¬ ((i : Int) < ((lvs o).length : Int)) by omega)]
  refine Ev.bind (idleI_ev t (by rw [X.size]; exact hs)) ?_
  simp only [hid, if_true]
  refine Ev.bind (mostI_ev t (by rw [X.size]; exact hs)) (Ev.bind (mostI_ev a0 hs) ?_)
  simp only [if_pos X.most, hido, if_pos hge]
  by_cases h0 : idl (lvs o) 0 > 0
  ·simp only [if_pos h0]
   exact Ev.now _
  ·simp only [if_neg h0]
   rw [X.self (g.prompt_iff.1 (by omega))]
   simp only [beq_self_eq_true]
   exact Ev.now _
 | d + 1, i, hi => by
  obtain ⟨l, g⟩ := X.good
  obtain ⟨l', gE⟩ := X.goodE
  have h1 := g.lvs_length
  have h2 := gE.lvs_length
  have hm := g.made
  have hl := X.len
  have ih := early_l0 X hs d (i + 1) (by omega)
  have hsame := X.same ((i + 1 : Nat) : Int) (by omega) (by omega)
  have hpr := X.prompt ((i + 1 : Nat) : Int) (by omega) (by omega)
  rw [show ((i + 1 : Nat) : Int) - 1 = (i : Int) by omega] at hsame hpr
  obtain ⟨j, hj, hg, S, K⟩ := gE.lv_at (n := ((i + 1 : Nat) : Int)) (by omega) (by omega)
  rw [show ((i + 1 : Nat) : Int) - 1 = (i : Int) by omega] at K
  have hK1 := K.born; have hK2 := K.used; have hK3 := K.un
  have hEl : E.length ≤ 1000000 := by
   have := (X.toldE)
   have h3 := told_good t
   obtain ⟨_, _, _, _, h4⟩ := h3
   rw [this] at h4
   have h5 : E.length ≤ 600 := h4
   omega
  refine Ev.step (fun k => laws_FnEarly.l0.eq_2 (k := k) ..) ?_
  simp only [if_pos (show ((i : Int) < ((lvs o).length : Int)) by omega), if_pos (show (0 : Int) ≤ (i : Int) by omega), if_pos (show ((i : Int) < ((lvs E).length : Int)) by omega), wrap_up (show i ≤ 1000000000 by omega)]
  have hdd : (decide ((rd_T31 (lvs o) (i : Int)).f2 < 0) != decide ((rd_T31 (lvs E) (i : Int)).f2 < 0)) = false := by
   rw [decide_eq_decide.2 hsame, bne_self_eq_false]
  simp only [hdd, Bool.false_eq_true, if_false]
  by_cases h0 : (rd_T31 (lvs E) (i : Int)).f2 ≥ 0
  ·simp only [if_pos h0]
   have := hpr.resolve_left (by omega)
   simp only [wrap_small (n := (rd_T31 (lvs E) (i : Int)).f1 + 1) (by omega) (by omega), if_pos this]
   exact ih
  ·simp only [if_neg h0]
   exact ih
end Go.Proofs.YtndjbnkmhpbnpaaGreatDoor.Pr
namespace Go.Proofs.YtndjbnkmhpbnpaaGreatDoor.Pure
open Go.RowKit Go.Proofs.YtndjbnkmhpbnpaaGreatDoorW.PrintWords Go.Proofs.YtndjbnkmhpbnpaaGreatDoorW.PrintLast Go.Proofs.YtndjbnkmhpbnpaaGreatDoorW.PrintMore
open Go.Proofs.YtndjbnkmhpbnpaaGreatDoor.Pr
set_option linter.unusedSimpArgs false
theorem FnEarly : laws_FnEarly.Pure := by
 intro a0 ha
 have hs : a0.size ≤ 1048576 := by omega
 refine Ev.rounds ?_
 unfold laws_FnEarly.f
 simp only [if_neg (show ¬ ((a0.size : Int) > 1048576) by omega)]
 refine Ev.bind (earlyI_ev a0 hs) (Ev.bind (earlyS_ev a0 hs) (Ev.bind (idleI_ev a0 hs) ?_))
 simp only [if_true, bne_self_eq_false, Bool.false_eq_true, if_false]
 refine Ev.bind (idleS_ev a0 hs) ?_
 simp only [if_true]
 cases hok : (toldOf a0).2.2
 ·have h1 : earlyOf a0 = (⟨#[]⟩, false) := by unfold earlyOf; rw [hok]; rfl
  have h2 : idleOf a0 = -1 := by unfold idleOf; rw [hok]; rfl
  rw [h1, h2]
  refine Ev.step (fun k => laws_FnEarly.j0.eq_2 (k := k) ..) ?_
  simp only [Bool.not_false, if_true, beq_self_eq_true]
  refine Ev.bind (idleS_ev a0 hs) ?_
  simp only [h2, if_true, Bool.false_eq_true, if_false, beq_self_eq_true]
  exact Ev.now _
 ·obtain ⟨t, o, E, m, X⟩ := earlyTx hok
  obtain ⟨l, g⟩ := X.good
  obtain ⟨l', gE⟩ := X.goodE
  have h1 := g.lvs_length
  have h2 := gE.lvs_length
  have hst : t.size ≤ 1048576 := by rw [X.size]; exact hs
  rw [X.early]
  refine Ev.step (fun k => laws_FnEarly.j0.eq_2 (k := k) ..) ?_
  simp only [Bool.not_true, Bool.false_eq_true, if_false, ofLives_told a0 hs, ofLives_told t hst, X.told, X.toldE, if_true, Option.bind_some]
  refine Ev.bind (earlyI_ev t hst) ?_
  simp only [X.again, if_pos (show ((lvs o).length : Int) = ((lvs E).length : Int) by omega), X.size, bne_self_eq_false]
  refine Ev.step (fun k => laws_FnEarly.j1.eq_2 (k := k) ..) ?_
  simp only [Bool.false_eq_true, if_false]
  exact early_l0 X hs m 0 (Nat.zero_add _)
end Go.Proofs.YtndjbnkmhpbnpaaGreatDoor.Pure
