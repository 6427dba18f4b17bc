/- MFnCellsd: texts of this proof, joined. -/
import Derived.Test.YtndjbnkmhpbnpaaGreatDoorMFnCellsa
import Derived.Test.YtndjbnkmhpbnpaaGreatDoorMFnCellsb
import Derived.Test.YtndjbnkmhpbnpaaGreatDoorMFnCellsc
import Derived.Maps.RangeWalk
import Derived.Deep.RegionWith
import Derived.RegionTactic
import Derived.Handy
import Derived.Outline
import Derived.Deep.DeepCutAuto
import Derived.Deep.CutBlock
import Derived.Deep.QuietTactic
import Derived.BigQuiet
import Derived.BigCall
import Derived.BigRegion
namespace Go.Proofs.YtndjbnkmhpbnpaaGreatDoor.Pr
open Go.RowKit Go.Proofs.YtndjbnkmhpbnpaaGreatDoorW.PrintWords Go.Proofs.YtndjbnkmhpbnpaaGreatDoorW.PrintLast Go.Proofs.YtndjbnkmhpbnpaaGreatDoorW.PrintMore
set_option linter.unusedVariables false
set_option linter.unusedSimpArgs false
theorem jn_cons (p q : List UInt8) (r : List (List UInt8)) : jn (p :: q :: r) = p ++ [32] ++ jn (q :: r) := by
 unfold jn
 rw [Lib.join_cons, Lib.join_cons]
 simp [Lib.joinTail]
theorem cut_ne : ∀ l : List UInt8, cutL l ≠ []
 | [] => by simp [cutL]
 | c :: r => by
  rw [cutL]
  split
  ·simp
  ·cases h : cutL r with
   | nil => exact absurd h (cut_ne r)
   | cons a b => simp [pre]
theorem jn_pre (p : List UInt8) : ∀ X : List (List UInt8), X ≠ [] → jn (pre p X) = p ++ jn X
 | [], h => absurd rfl h
 | [a], _ => by simp [pre, jn_one]
 | a :: b :: r, _ => by
  rw [pre, jn_cons, jn_cons]
  simp
theorem jn_cut : ∀ l : List UInt8, jn (cutL l) = l
 | [] => by simp [cutL, jn_one]
 | c :: r => by
  have ih := jn_cut r
  rw [cutL]
  split
  ·rename_i hc
   subst hc
   cases h : cutL r with
   | nil => exact absurd h (cut_ne r)
   | cons a b =>
    rw [jn_cons, ← h, ih]
    rfl
  ·rw [jn_pre _ _ (cut_ne r), ih]
   rfl
theorem cut_app : ∀ (p : List UInt8), (32 : UInt8) ∉ p → ∀ r : List UInt8, cutL (p ++ r) = pre p (cutL r)
 | [], _, r => by rw [List.nil_append, pre_nil]
 | c :: p, h, r => by
  have hc : ¬ c = 32 := fun e => h (by rw [e]; exact List.mem_cons_self)
  rw [List.cons_append, cutL, if_neg hc, cut_app p (fun e => h (List.mem_cons_of_mem _ e)) r, pre_pre]
  rfl
theorem cut_jn : ∀ ps : List (List UInt8), ps ≠ [] → (∀ p ∈ ps, (32 : UInt8) ∉ p) → cutL (jn ps) = ps
 | [], h, _ => absurd rfl h
 | [p], _, hp => by
  rw [jn_one]
  have := cut_app p (hp p (by simp)) []
  rw [List.append_nil] at this
  rw [this]
  simp [cutL, pre]
 | p :: q :: r, _, hp => by
  rw [jn_cons, List.append_assoc, cut_app p (hp p (by simp)), List.cons_append, List.nil_append, cutL, if_pos rfl, cut_jn (q :: r) (by simp) (fun x hx => hp x (List.mem_cons_of_mem _ hx))]
  simp [pre]
theorem pieces_data (s : ByteArray) : (pieces s).map (·.data.toList) = cutL s.data.toList := by
 unfold pieces
 rw [Lib.splitB_data]
 exact splitK_cut _
theorem text_pieces (s : ByteArray) : s.data.toList = jn ((pieces s).map (·.data.toList)) := by rw [pieces_data, jn_cut]
def Tidy (e : S55) : Prop := ∃ c : UInt8, e.f0 = bs [c]
theorem bs_of {s : ByteArray} {l : List UInt8} (h : s.toList = l) : s = bs l := by rw [← h, bs_self]
theorem sgn_dig {s : ByteArray} (h : s.size ≠ 0) : s.data.toList = (sgn s).data.toList ++ (dig s).data.toList := by
 unfold sgn dig
 cases hd : s.data.toList with
 | nil =>
  exfalso
  apply h
  have := congrArg List.length hd
  simpa using this
 | cons c r =>
  have hsz : s.size = r.length + 1 := by
   have := congrArg List.length hd
   simpa using this
  simp [hd, hsz]
theorem tsign_ev {st st' : Tst} {s : ByteArray} {n : Int} (h : tsign st s n = some st') : st'.out = st.out ++ [⟨sgn s, n⟩] ∧ ((sgn s).toList = [43] ∨ (sgn s).toList = [46] ∨ (sgn s).toList = [45]) := by
 unfold tsign at h
 split at h
 ·rename_i hc
  injection h with h; subst h; exact ⟨rfl, .inl hc.1⟩
 ·split at h
  ·rename_i hc
   injection h with h; subst h; exact ⟨rfl, .inr (.inl hc.1)⟩
  ·split at h
   ·rename_i hc
    injection h with h; subst h; exact ⟨rfl, .inr (.inr hc.1)⟩
   ·cases h
theorem numOf_dig {s : ByteArray} {n : Int} (h : numOf s = some n) : (dig s).data.toList = Lib.itoa n := by
 unfold numOf at h
 split at h
 ·split at h
  ·rename_i he
   injection h with h
   rw [← h, he]
  ·cases h
 ·cases h
theorem tloop_pieces : ∀ (ws : List ByteArray) (st st' : Tst), tloop ws st = some st' → ∃ es : List S55, st'.out = st.out ++ es ∧ ws.map (·.data.toList) = es.map piece ∧ ∀ e ∈ es, Tidy e
 | [], st, st', h => by
  rw [tloop] at h
  injection h with h
  subst h
  exact ⟨[], by simp, rfl, by simp⟩
 | s :: r, st, st', h => by
  rw [tloop] at h
  cases hs : tstep st s with
  | none => rw [hs] at h; cases h
  | some st1 =>
   rw [hs] at h
   unfold tstep at hs
   split at hs
   ·cases hs
   ·rename_i hz
    split at hs
    ·cases hs
    ·rename_i n hn
     split at hs
     ·cases hs
     ·obtain ⟨h1, h2⟩ := tsign_ev hs
      obtain ⟨es, e1, e2, e3⟩ := tloop_pieces r st1 st' h
      refine ⟨⟨sgn s, n⟩ :: es, by rw [e1, h1]; simp, ?_, ?_⟩
      ·rw [List.map_cons, List.map_cons, e2]
       congr 1
       unfold piece
       rw [sgn_dig hz, numOf_dig hn, Lib.toList_data]
      ·intro e he
       rcases List.mem_cons.1 he with rfl | he
       ·rcases h2 with h2 | h2 | h2 <;> exact ⟨_, bs_of h2⟩
       ·exact e3 e he
theorem told_text {a0 : ByteArray} (h : (toldOf a0).2.2 = true) : a0 = txt ((toldOf a0).1.map piece) ∧ ∀ e ∈ (toldOf a0).1, Tidy e := by
 unfold toldOf at h ⊢
 by_cases h45 : a0.toList = [45]
 ·rw [if_pos h45]
  refine ⟨?_, by simp⟩
  rw [bs_of h45]
  rfl
 ·rw [if_neg h45] at h ⊢
  cases hs : tloop (pieces a0) ⟨[], 0, []⟩ with
  | none => rw [hs] at h; cases h
  | some st =>
   obtain ⟨es, e1, e2, e3⟩ := tloop_pieces _ _ _ hs
   simp only [List.nil_append] at e1
   simp only [e1]
   refine ⟨?_, e3⟩
   have ht := text_pieces a0
   rw [e2] at ht
   have hne : es.map piece ≠ [] := by
    rw [← e2, pieces_data]
    exact cut_ne _
   unfold txt
   rw [if_neg hne, ← ht, ← Lib.toList_data, bs_self]
theorem tloop_snoc (s : ByteArray) : ∀ (ws : List ByteArray) (st : Tst), tloop (ws ++ [s]) st = (tloop ws st).bind (fun st' => tstep st' s)
 | [], st => by
  rw [List.nil_append]
  show (match tstep st s with
   | none => none
   | some st' => tloop [] st') = tstep st s
  cases tstep st s <;> rfl
 | a :: r, st => by
  rw [List.cons_append, tloop, tloop]
  cases tstep st a with
  | none => rfl
  | some st1 => exact tloop_snoc s r st1
theorem bs_sgn (c : UInt8) (r : List UInt8) : sgn (bs (c :: r)) = bs [c] := by
 unfold sgn
 apply ByteArray.ext
 apply Array.ext'
 simp [bs]
theorem bs_dig (c : UInt8) (r : List UInt8) : (dig (bs (c :: r))).data.toList = r := by
 unfold dig
 simp [bs, ByteArray.size]
theorem tstep_piece {o : List S55} {m : Nat} {l : List Int} {c : UInt8} {n : Nat} (hn : 1 ≤ n) (hn6 : n ≤ 601) (hl : o.length < 600) :
  tstep ⟨o, (m : Int), l⟩ (bs (c :: Lib.itoa (n : Int))) = tsign ⟨o, (m : Int), l⟩ (bs (c :: Lib.itoa (n : Int))) (n : Int) := by
 unfold tstep
 rw [if_neg (by rw [bs_size]; simp)]
 have h := (numOf_iff (bs (c :: Lib.itoa (n : Int))) n hn hn6).2 (by rw [bs_dig]; exact Lib.itoa_nonneg n)
 rw [h]
 show (if o.length = 600 then none else _) = _
 rw [if_neg (by omega)]
theorem piece_tidy {c : UInt8} {n : Int} {s : ByteArray} (hs : s = bs [c]) : piece ⟨s, n⟩ = c :: Lib.itoa n := by
 unfold piece
 rw [hs, bs_toList]
 rfl
theorem tloop_told {o : List S55} {m : Nat} {l : List Int} (g : Good o m l) (hl : o.length ≤ 600) (ht : ∀ e ∈ o, Tidy e) : tloop ((o.map piece).map bs) ⟨[], 0, []⟩ = some ⟨o, (m : Int), l⟩ := by
 induction g with
 | nil => rfl
 | @make o m l s g hs ih =>
  rw [List.length_append, List.length_singleton] at hl
  have hm := g.made
  rw [List.map_append, List.map_append, List.map_singleton, List.map_singleton, tloop_snoc, ih (by omega) (fun e he => ht e (List.mem_append_left _ he))]
  have hb := bs_of hs
  rw [piece_tidy hb]
  show tstep _ _ = _
  rw [tstep_piece (by omega) (by omega) (by omega)]
  unfold tsign
  rw [bs_sgn, bs_toList, if_pos ⟨rfl, by simp only []; omega⟩, hb]
  simp
 | @use o m l s n g hs hn ih =>
  rw [List.length_append, List.length_singleton] at hl
  have hm := g.made
  have hr := g.range _ hn
  obtain ⟨k, rfl⟩ := Int.eq_ofNat_of_zero_le (show 0 ≤ n by omega)
  rw [List.map_append, List.map_append, List.map_singleton, List.map_singleton, tloop_snoc, ih (by omega) (fun e he => ht e (List.mem_append_left _ he))]
  have hb := bs_of hs
  rw [piece_tidy hb]
  show tstep _ _ = _
  rw [tstep_piece (by omega) (by omega) (by omega)]
  unfold tsign
  rw [bs_sgn, bs_toList, if_neg (fun h => by simp at h), if_pos ⟨rfl, hn⟩, hb]
 | @kill o m l s n g hs hn ih =>
  rw [List.length_append, List.length_singleton] at hl
  have hm := g.made
  have hr := g.range _ hn
  obtain ⟨k, rfl⟩ := Int.eq_ofNat_of_zero_le (show 0 ≤ n by omega)
  rw [List.map_append, List.map_append, List.map_singleton, List.map_singleton, tloop_snoc, ih (by omega) (fun e he => ht e (List.mem_append_left _ he))]
  have hb := bs_of hs
  rw [piece_tidy hb]
  show tstep _ _ = _
  rw [tstep_piece (by omega) (by omega) (by omega)]
  unfold tsign
  rw [bs_sgn, bs_toList, if_neg (fun h => by simp at h), if_neg (fun h => by simp at h), if_pos ⟨rfl, hn⟩, hb]
theorem digits_plain : ∀ (k u : Nat), u < k → ∀ c ∈ Lib.decDigits u, 48 ≤ c.toNat
 | 0, u, h, _, _ => by omega
 | k + 1, u, h, c, hc => by
  rw [Lib.decDigits] at hc
  split at hc
  ·rename_i hu
   have := List.mem_singleton.1 hc
   subst this
   rw [ofNat_digit hu]
   omega
  ·rcases List.mem_append.1 hc with hc | hc
   ·exact digits_plain k (u / 10) (by omega) c hc
   ·have := List.mem_singleton.1 hc
    subst this
    rw [ofNat_digit (by omega)]
    omega
theorem piece_plain {o : List S55} {m : Nat} {l : List Int} (g : Good o m l) : ∀ p ∈ o.map piece, (32 : UInt8) ∉ p := by
 intro p hp h32
 obtain ⟨e, he, rfl⟩ := List.mem_map.1 hp
 have hv := g.values e he
 unfold piece at h32
 rcases List.mem_append.1 h32 with h | h
 ·rcases g.signs e he with hs | hs | hs <;> rw [hs] at h <;> simp at h
 ·obtain ⟨k, hk⟩ := Int.eq_ofNat_of_zero_le (show 0 ≤ e.f1 by omega)
  rw [hk, Lib.itoa_nonneg] at h
  have := digits_plain (k + 1) k (by omega) _ h
  simp at this
theorem piece_two {o : List S55} {m : Nat} {l : List Int} (g : Good o m l) : ∀ p ∈ o.map piece, 2 ≤ p.length := by
 intro p hp
 obtain ⟨e, he, rfl⟩ := List.mem_map.1 hp
 have hne := itoa_some e.f1
 unfold piece
 have h1 : 1 ≤ (Lib.itoa e.f1).length := List.length_pos_iff.2 hne
 rcases g.signs e he with hs | hs | hs <;> rw [hs] <;> simp <;> omega
theorem jn_long : ∀ ps : List (List UInt8), ps ≠ [] → (∀ p ∈ ps, 2 ≤ p.length) → 2 ≤ (jn ps).length
 | [], h, _ => absurd rfl h
 | [p], _, hp => by rw [jn_one]; exact hp p (by simp)
 | p :: q :: r, _, hp => by
  have := hp p (by simp)
  rw [jn_cons]
  simp
  omega
theorem text_told {o : List S55} {m : Nat} {l : List Int} (g : Good o m l) (hl : o.length ≤ 600) (ht : ∀ e ∈ o, Tidy e) : toldOf (txt (o.map piece)) = (o, (m : Int), true) := by
 by_cases ho : o = []
 ·subst ho
  have hm := g.made
  have : m = 0 := by
   have h1 := hm.1
   simpa using h1
  subst this
  have e : txt ([] : List (List UInt8)) = bs [45] := rfl
  show toldOf (txt []) = _
  rw [e]
  unfold toldOf
  rw [bs_toList, if_pos rfl]
  rfl
 ·have hne : o.map piece ≠ [] := by simpa using ho
  have hlong := jn_long _ hne (piece_two g)
  have htx : txt (o.map piece) = bs (jn (o.map piece)) := by unfold txt; rw [if_neg hne]
  unfold toldOf
  rw [htx, bs_toList, if_neg (fun h => by rw [h] at hlong; simp at hlong)]
  have hp : pieces (bs (jn (o.map piece))) = (o.map piece).map bs := by
   apply bytes_lists
   rw [pieces_data, bs_list, cut_jn _ hne (piece_plain g)]
   rw [List.map_map]
   have : ((fun x : ByteArray => x.data.toList) ∘ bs) = id := by
    funext x
    exact bs_list x
   rw [this, List.map_id]
  rw [hp, tloop_told g hl ht]
theorem early_mem (xs : List S31) (x : S55) : ∀ (o : List S55) (i : Int), x ∈ early xs o i ↔ ∃ (k : Nat) (e : S55), o[k]? = some e ∧ x ∈ early1 xs e (i + k)
 | [], i => by simp [early]
 | a :: r, i => by
  rw [early, List.mem_append, early_mem xs x r (i + 1)]
  constructor
  ·rintro (h | ⟨k, e, h1, h2⟩)
   ·exact ⟨0, a, rfl, by simpa using h⟩
   ·exact ⟨k + 1, e, by simpa using h1, by rw [show i + ((k + 1 : Nat) : Int) = i + 1 + k by omega]; exact h2⟩
  ·rintro ⟨k, e, h1, h2⟩
   cases k with
   | zero =>
    simp at h1
    subst h1
    exact .inl (by simpa using h2)
   | succ k => exact .inr ⟨k, e, by simpa using h1, by rw [show i + 1 + (k : Int) = i + ((k + 1 : Nat) : Int) by omega]; exact h2⟩
theorem early_minus (xs : List S31) : ∀ (o : List S55) (i : Int) (p : Nat) (e : S55), (early xs o i)[p]? = some e → e.f0.toList = [45] →
  ∃ (q : Nat) (e' : S55), p = q + 1 ∧ (early xs o i)[q]? = some e' ∧ e'.f1 = e.f1 ∧ e'.f0.toList ≠ [45] ∧ (rd_T31 xs (e.f1 - 1)).f2 ≥ 0
 | [], i, p, e, h, _ => by simp [early] at h
 | a :: r, i, p, e, h, hs => by
  rw [early] at h ⊢
  have step : ∀ (z : List S55), early1 xs a i = z → z.length ≤ p → ∃ (q : Nat) (e' : S55), p = q + 1 ∧ (z ++ early xs r (i + 1))[q]? = some e' ∧ e'.f1 = e.f1 ∧ e'.f0.toList ≠ [45] ∧ (rd_T31 xs (e.f1 - 1)).f2 ≥ 0 := by
   intro z hz hp
   rw [hz, List.getElem?_append_right hp] at h
   obtain ⟨q, e', h1, h2, h3, h4, h5⟩ := early_minus xs r (i + 1) (p - z.length) e h hs
   exact ⟨q + z.length, e', by omega, by rw [List.getElem?_append_right (by omega), show q + z.length - z.length = q by omega]; exact h2, h3, h4, h5⟩
  by_cases ha : a.f0.toList = [45]
  ·have hz : early1 xs a i = [] := by unfold early1; rw [if_pos ha]
   rw [hz]
   exact step [] hz (Nat.zero_le _)
  ·by_cases hC : (rd_T31 xs (a.f1 - 1)).f1 = i ∧ (rd_T31 xs (a.f1 - 1)).f2 ≥ 0
   ·have hz : early1 xs a i = [a, ⟨bs [45], a.f1⟩] := by unfold early1; rw [if_neg ha, if_pos hC]
    rw [hz] at h ⊢
    match p, h with
    | 0, h =>
     simp at h
     subst h
     exact absurd hs ha
    | 1, h =>
     simp at h
     subst h
     exact ⟨0, a, rfl, by simp, rfl, ha, hC.2⟩
    | p + 2, h => exact step _ hz (by simp)
   ·have hz : early1 xs a i = [a] := by unfold early1; rw [if_neg ha, if_neg hC]
    rw [hz] at h ⊢
    match p, h with
    | 0, h =>
     simp at h
     subst h
     exact absurd hs ha
    | p + 1, h => exact step _ hz (by simp)
theorem Good.early_all {o : List S55} {m : Nat} {l : List Int} (g : Good o m l) : ∃ l', Good (Pr.early (lvs o) o 0) m l' := by
 have h := g.early o.length m l (Nat.le_refl _) (by rw [List.take_length]; exact g)
 rw [List.take_length] at h
 exact ⟨_, h⟩
def Prompt (o : List S55) (m : Nat) : Prop := ∀ n : Int, 1 ≤ n → n ≤ m → (rd_T31 (lvs o) (n - 1)).f2 < 0 ∨ (rd_T31 (lvs o) (n - 1)).f2 = (rd_T31 (lvs o) (n - 1)).f1 + 1
theorem Good.early_lives {o : List S55} {m : Nat} {l : List Int} (g : Good o m l) {l' : List Int} (gE : Good (Pr.early (lvs o) o 0) m l') :
  Prompt (Pr.early (lvs o) o 0) m ∧ ∀ n : Int, 1 ≤ n → n ≤ m → ((rd_T31 (lvs (Pr.early (lvs o) o 0)) (n - 1)).f2 < 0 ↔ (rd_T31 (lvs o) (n - 1)).f2 < 0) := by
 have key : ∀ n : Int, 1 ≤ n → n ≤ m → 0 ≤ (rd_T31 (lvs (Pr.early (lvs o) o 0)) (n - 1)).f2 → (rd_T31 (lvs (Pr.early (lvs o) o 0)) (n - 1)).f2 = (rd_T31 (lvs (Pr.early (lvs o) o 0)) (n - 1)).f1 + 1 ∧ (rd_T31 (lvs o) (n - 1)).f2 ≥ 0 := by
  intro n h1 h2 h0
  obtain ⟨j, hj, _, S, K⟩ := gE.lv_at h1 h2
  obtain ⟨d, hd, e, hd1, hd2, hd3⟩ := S.dead h0
  obtain ⟨q, e', rfl, q1, q2, q3, q4⟩ := early_minus _ _ _ _ _ hd1 hd2
  have hl := S.last q e' q1 (by rw [q2, hd3]) q3
  have hu := K.ud h0
  rw [hd3, ← hj] at q4
  exact ⟨by omega, q4⟩
 refine ⟨fun n h1 h2 => ?_, fun n h1 h2 => ?_⟩
 ·by_cases h0 : (rd_T31 (lvs (Pr.early (lvs o) o 0)) (n - 1)).f2 < 0
  ·exact .inl h0
  ·exact .inr (key n h1 h2 (by omega)).1
 ·constructor
  ·intro h0
   apply Classical.byContradiction
   intro hx
   obtain ⟨j, hj, _, S, K⟩ := g.lv_at h1 h2
   obtain ⟨u, hu, e, hu1, hu2, hu3⟩ := S.used
   have hm : (⟨bs [45], n⟩ : S55) ∈ Pr.early (lvs o) o 0 := by
    refine (early_mem _ _ _ _).2 ⟨u, e, hu1, ?_⟩
    unfold early1
    rw [if_neg hu2, if_pos ⟨by rw [hu3, ← hj, hu]; omega, by rw [hu3, ← hj]; omega⟩]
    simp [hu3, hj]
   obtain ⟨d, hd⟩ := List.mem_iff_getElem?.1 hm
   obtain ⟨j', hj', _, S', _⟩ := gE.lv_at h1 h2
   have := S'.died d _ hd hj' (bs_toList _)
   omega
  ·intro hx
   apply Classical.byContradiction
   intro h0
   have := (key n h1 h2 (by omega)).2
   omega
theorem Good.prompt {o : List S55} {m : Nat} {l : List Int} (g : Good o m l) (ht : ∀ e ∈ o, Tidy e) (hp : Prompt o m) : ∀ (d i : Nat), i + d = o.length → (∀ e, o[i]? = some e → e.f0.toList ≠ [45]) → Pr.early (lvs o) (o.drop i) (i : Int) = o.drop i
 | 0, i, hi, _ => by
  rw [List.drop_of_length_le (by omega)]
  rfl
 | d + 1, i, hi, hne => by
  have hlt : i < o.length := by omega
  have he : o[i]? = some o[i] := List.getElem?_eq_getElem hlt
  have h45 := hne _ he
  have hv := g.values _ (List.getElem_mem hlt)
  obtain ⟨j, hj, _, S, K⟩ := g.lv_at hv.1 hv.2
  rw [List.drop_eq_getElem_cons hlt, Pr.early]
  unfold early1
  rw [if_neg h45]
  by_cases hC : (rd_T31 (lvs o) (o[i].f1 - 1)).f1 = (i : Int) ∧ (rd_T31 (lvs o) (o[i].f1 - 1)).f2 ≥ 0
  ·rw [if_pos hC]
   have hpv := (hp o[i].f1 hv.1 hv.2).resolve_left (by omega)
   obtain ⟨q, hq, e2, hq1, hq2, hq3⟩ := S.dead hC.2
   have hqi : q = i + 1 := by omega
   subst hqi
   have hlt2 : i + 1 < o.length := (List.getElem?_eq_some_iff.1 hq1).1
   have he2 : o[i + 1] = e2 := (List.getElem?_eq_some_iff.1 hq1).2
   have hd2 : o.drop (i + 1) = e2 :: o.drop (i + 2) := by rw [List.drop_eq_getElem_cons hlt2, he2]
   have hev : e2 = ⟨bs [45], o[i].f1⟩ := by
    have hb := bs_of hq2
    rw [← hb, hj, ← hq3]
   obtain ⟨d', rfl⟩ : ∃ d', d = d' + 1 := ⟨d - 1, by omega⟩
   have ih := Good.prompt g ht hp d' (i + 2) (by omega) (fun e3 h3 hs3 => by
    have hv3 := g.values _ (List.mem_of_getElem? h3)
    obtain ⟨j3, hj3, _, S3, K3⟩ := g.lv_at hv3.1 hv3.2
    have hd3 := S3.died _ _ h3 hj3 hs3
    have hp3 := (hp e3.f1 hv3.1 hv3.2).resolve_left (by omega)
    have := (g.at_used hv3.1 hv3.2 hq1 (by omega)).2
    exact this hq2)
   have hsk : Pr.early (lvs o) (o.drop (i + 1)) ((i : Int) + 1) = Pr.early (lvs o) (o.drop (i + 2)) (((i + 2 : Nat)) : Int) := by
    rw [hd2, Pr.early]
    unfold early1
    rw [if_pos hq2, List.nil_append]
    congr 1
   rw [hsk, ih, hd2, hev]
   rfl
  ·rw [if_neg hC]
   have ih := Good.prompt g ht hp d (i + 1) (by omega) (fun e3 h3 hs3 => by
    have hv3 := g.values _ (List.mem_of_getElem? h3)
    obtain ⟨j3, hj3, _, S3, K3⟩ := g.lv_at hv3.1 hv3.2
    have hd3 := S3.died _ _ h3 hj3 hs3
    have hp3 := (hp e3.f1 hv3.1 hv3.2).resolve_left (by omega)
    have hu := g.at_used hv3.1 hv3.2 he (by omega)
    rw [hu.1] at hC
    exact hC ⟨by omega, by omega⟩)
   rw [show ((i : Int) + 1) = ((i + 1 : Nat) : Int) by omega, ih]
   rfl
theorem Good.prompt_early {o : List S55} {m : Nat} {l : List Int} (g : Good o m l) (ht : ∀ e ∈ o, Tidy e) (hp : Prompt o m) : Pr.early (lvs o) o 0 = o := by
 have h := g.prompt ht hp o.length 0 (Nat.zero_add _) (fun e he hs => by
  have hv := g.values _ (List.mem_of_getElem? he)
  obtain ⟨j, hj, _, S, K⟩ := g.lv_at hv.1 hv.2
  have hd := S.died _ _ he hj hs
  have hu := K.ud (by omega)
  have := K.born
  have := K.used
  omega)
 rw [List.drop_zero] at h
 exact h
end Go.Proofs.YtndjbnkmhpbnpaaGreatDoor.Pr
namespace Go.Proofs.YtndjbnkmhpbnpaaGreatDoor.Pr
open Go.RowKit Go.Proofs.YtndjbnkmhpbnpaaGreatDoorW.PrintWords Go.Proofs.YtndjbnkmhpbnpaaGreatDoorW.PrintLast Go.Proofs.YtndjbnkmhpbnpaaGreatDoorW.PrintMore
attribute [local go_sem] max2_int min2_int max_two min_two max_three min_three max_four min_four   -- for this text's walks alone
set_option linter.unusedVariables false
set_option linter.unusedSimpArgs false
def impl_MostAlive.l0 : Nat → Int → List (S31) → Int → Int → Option (Int)
 | 0, _, _, _, _ => none
 | k + 1, x6, x7, x21, x22 => if x22 < x21 then ((impl_alive.f k x7 x22).bind fun t287 => (impl_MostAlive.l0 k (mx x6 (t287.length : Int)) x7 x21 (wrap64 (x22 + 1)))) else (some x6)
def impl_MostAlive.f (k : Nat) (a0 : ByteArray) : Option (Int) := (impl_told.f a0).bind fun bt279 => (if bt279.2.2 = true then ((impl_lives.f bt279.1 bt279.2.1).bind fun t284 => (impl_MostAlive.l0 k 0 t284 (bt279.1.length : Int) 0)) else (some (-1)))
set_option maxHeartbeats 8000000 in
set_option maxRecDepth 100000 in
theorem impl_MostAlive.calls (k : Nat) (a0 : ByteArray) (r : Int) (w : World) (hLd : LaidW w) (h : impl_MostAlive.f k a0 = some r) :
  Calls Tryz.prog 15 #[.string a0] w fun e w' => e = .returned (.int .i64 r) ∧ Below w.heap.size w w' := by
 have HB := Az.mk (Below.refl w.heap.size w)
 have HLd := Az.mk hLd
 clear hLd
 have H : ((impl_told.f a0).bind fun bt279 => (if bt279.2.2 = true then ((impl_lives.f bt279.1 bt279.2.1).bind fun t284 => (impl_MostAlive.l0 k 0 t284 (bt279.1.length : Int) 0)) else (some (-1)))) = some r := h
 clear h
 replace H := Option.bind_eq_some_iff.mp H
 obtain ⟨⟨t279, t280, t281⟩, A20, H⟩ := H
 replace H : (if t281 = true then ((impl_lives.f t279 t280).bind fun t284 => (impl_MostAlive.l0 k 0 t284 (t279.length : Int) 0)) else (some (-1))) = some r := H
 have A2 := Az.mk A20
 clear A20
 by_cases c3 : t281 = true
 ·subst c3
  have H1 : ((impl_lives.f t279 t280).bind fun t284 => (impl_MostAlive.l0 k 0 t284 (t279.length : Int) 0)) = some r := by rw [if_pos rfl] at H; exact H
  clear H
  have H := H1
  clear H1
  replace H := Option.bind_eq_some_iff.mp H
  obtain ⟨t284, A40, H⟩ := H
  replace H : (impl_MostAlive.l0 k 0 t284 (t279.length : Int) 0) = some r := H
  have A4 := Az.mk A40
  clear A40
  have H' := Az.mk H
  clear H
  go_enter Tryz.func15, Tryz.ntmps15
  go_wp2_with (first | ((with_reducible refine gate_callee (f := 50) rfl ?_); refine goesL_ (some 11) rfl rfl Tryz.func50 (by kernel_rfl) rfl #[.string a0] rfl (by (try simp only [List.map_toArray, List.map_cons, List.map_nil]); first | done | rfl | (simp only [List.length_drop, List.length_take]; rfl)) ?_; (with_reducible refine (impl_told.calls a0 t279 t280 true _ (HLd.out.below (by repeat first|exact HB.out|apply bA|apply bN|apply bD)) A2.out).mono ?_); rintro e w5 ⟨v282, rfl, ho0, hb⟩; refine ⟨_, rfl, ?_⟩; have n0_ := Az.mk (Kd.R_lower ho0 (bZ (by repeat first|exact HB.out|apply bA|apply bN|apply bD))); have n1_ := Az.mk (bS (by repeat first|exact HB.out|apply bA|apply bN|apply bD) hb); clear HB; have HO283 := n0_; have HB := n1_; clear n0_ n1_; (try clear hb); (try clear hb2); (try clear hk); (try clear hi); (try clear ho0); obtain ⟨Ao6, co6, eo6⟩ := Kd.R_slice HO283.out; subst eo6) | ((with_reducible refine gate_callee (f := 51) rfl ?_); refine goesL_ (some 19) rfl rfl Tryz.func51 (by kernel_rfl) rfl #[.slice Ao6 t279.length co6, .int .i64 t280] rfl (by (try simp only [List.map_toArray, List.map_cons, List.map_nil]); first | done | rfl | (simp only [List.length_drop, List.length_take]; rfl)) ?_; (with_reducible refine (impl_lives.calls _ _ t279 t280 t284 _ ?side1 ?side2 A4.out).mono ?_); (case side1 => repeat (first | exact (Kd.R_reads' HO283.out).2.2 | (with_reducible refine Kd.C_alloc ?_ _) | (with_reducible refine Kd.C_drewN ?_ _) | (with_reducible refine Kd.C_drew ?_))); (case side2 => exact (Kd.R_reads' HO283.out).2.1); rintro e w7 ⟨v285, rfl, ho0, hb⟩; refine ⟨_, rfl, ?_⟩; have n0_ := Az.mk (Kd.Rb (by (with_reducible repeat first|apply Kd.Ra|apply Kd.Rn|apply Kd.Rw); exact HO283.out) hb); have n1_ := Az.mk (Kd.R_lower ho0 (bZ (by repeat first|exact HB.out|apply bA|apply bN|apply bD))); have n2_ := Az.mk (bS (by repeat first|exact HB.out|apply bA|apply bN|apply bD) hb); clear HO283; clear HB; have HO283 := n0_; have HO286 := n1_; have HB := n2_; clear n0_ n1_ n2_; (try clear hb); (try clear hb2); (try clear hk); (try clear hi); (try clear ho0)))
  go_loopg [6, 22] k (fun kq v6 v22 w' => ∃ (x6_1 : Int) (x22_1 : Int), v6 = .int .i64 x6_1 ∧ v22 = .int .i64 x22_1 ∧ Az (impl_MostAlive.l0 kq x6_1 t284 (t279.length : Int) x22_1 = some r) ∧ Az (kq ≤ k) ∧ Az (Kd.R k31 31 w' w.heap.size (fun _ => True) v285 t284) ∧ Az (Below w.heap.size w w'))
  case atStart => exact ⟨(0), (0), (by first | rfl | (simp; done) | (simp [*]; done)), (by first | rfl | (simp; done) | (simp [*]; done)), H', ⟨Nat.le_refl _⟩, ⟨by (with_reducible repeat first|apply Kd.Ra|apply Kd.Rn|apply Kd.Rw); exact HO286.out⟩, ⟨by repeat (first | (with_reducible first|exact HB.out|apply bA|apply bN|apply bD) | exact HB.out)⟩⟩
  case round =>
   clear H'
   try clear c1
   try clear p2
   try clear c3
   try clear c5
   obtain ⟨x6_1, x22_1, rfl, rfl, HA, HK1, HO_7, HB⟩ := hrel
   cases gk with
   | zero => exact absurd HA.out (by simp [impl_MostAlive.l0])
   | succ k1 =>
    have H := HA.out
    clear HA
    simp only [impl_MostAlive.l0] at H
    by_cases c8 : x22_1 < (t279.length : Int)
    ·rw [if_pos c8] at H
     have c8b0 : decide (x22_1 < (t279.length : Int)) = true := decide_eq_true c8
     clear c8
     replace H := Option.bind_eq_some_iff.mp H
     obtain ⟨t287, A90, H⟩ := H
     replace H : (impl_MostAlive.l0 k1 (mx x6_1 (t287.length : Int)) t284 (t279.length : Int) (wrap64 (x22_1 + 1))) = some r := H
     have A9 := Az.mk A90
     clear A90
     obtain ⟨ji10, hji10⟩ : ∃ j_ : Int, (mx x6_1 (t287.length : Int)) = j_ := ⟨_, rfl⟩
     replace H : (impl_MostAlive.l0 k1 ji10 t284 (t279.length : Int) (wrap64 (x22_1 + 1))) = some r := by first | (rw [hji10] at H; exact H) | (simp only [hji10] at H ⊢; exact H)
     (try rw [hji10] at A9)
     have hji10_ : (if x6_1 < (t287.length : Int) then (t287.length : Int) else x6_1) = ji10 := hji10
     have H' := Az.mk H
     clear H
     obtain ⟨Ao11, co11, eo11⟩ := Kd.R_slice HO_7.out
     subst eo11
     go_wp2_with (first | ((with_reducible refine gate_callee (f := 57) rfl ?_); refine goesL_ (some 28) rfl rfl Tryz.func57 (by kernel_rfl) rfl #[.slice Ao11 t284.length co11, .int .i64 x22_1] rfl (by (try simp only [List.map_toArray, List.map_cons, List.map_nil]); first | done | rfl | (simp only [List.length_drop, List.length_take]; rfl)) ?_; (with_reducible refine (impl_alive.calls k1 _ _ t284 x22_1 t287 _ ?side1 ?side2 A9.out).mono ?_); (case side1 => repeat (first | exact (Kd.R_reads' HO_7.out).2.2 | (with_reducible refine Kd.C_alloc ?_ _) | (with_reducible refine Kd.C_drewN ?_ _) | (with_reducible refine Kd.C_drew ?_))); (case side2 => exact (Kd.R_reads' HO_7.out).2.1); rintro e w12 ⟨v288, rfl, ho0, hb⟩; refine ⟨_, rfl, ?_⟩; have n0_ := Az.mk (Kd.Rb (by (with_reducible repeat first|apply Kd.Ra|apply Kd.Rn|apply Kd.Rw); exact HO_7.out) hb); have n1_ := Az.mk (Kd.R_lower ho0 (bZ (by repeat first|exact HB.out|apply bA|apply bN|apply bD))); have n2_ := Az.mk (bS (by repeat first|exact HB.out|apply bA|apply bN|apply bD) hb); clear HO_7; clear HB; have HO_7 := n0_; have HO289 := n1_; have HB := n2_; clear n0_ n1_ n2_; (try clear hb); (try clear hb2); (try clear hk); (try clear hi); (try clear ho0); obtain ⟨Ao13, co13, eo13⟩ := Kd.R_slice HO289.out; subst eo13))
     go_roundg k1
     case measure => have := HK1.out; omega
     case rel => exact ⟨(ji10), (wrap64 (x22_1 + 1)), (by first | rfl | (simp; done) | (simp only [← hji10] <;> (first | rfl | simp)) | (simp [*]; done)), (by first | rfl | (simp; done) | (simp [*]; done)), H', ⟨by have := HK1.out; omega⟩, ⟨by (with_reducible repeat first|apply Kd.Ra|apply Kd.Rn|apply Kd.Rw); exact HO_7.out⟩, ⟨by repeat (first | (with_reducible first|exact HB.out|apply bA|apply bN|apply bD) | exact HB.out)⟩⟩
    ·rw [if_neg c8] at H
     have c8b0 : decide (x22_1 < (t279.length : Int)) = false := decide_eq_false c8
     clear c8
     obtain rfl := Option.some.inj H
     go_wp2
     go_ret
     exact ⟨by first | rfl | (simp [errW_none, errW_some] <;> rfl) | (simp [*, errW_none, errW_some] <;> rfl), by repeat (first | (with_reducible first|exact HB.out|apply bA|apply bN|apply bD) | exact HB.out)⟩
 ·replace c3 := Bool.eq_false_iff.mpr c3
  subst c3
  have H1 : (some (-1)) = some r := by rw [if_neg (show ¬ (false = true) by decide)] at H; exact H
  clear H
  have H := H1
  clear H1
  obtain rfl := Option.some.inj H
  go_enter Tryz.func15, Tryz.ntmps15
  go_wp2_with (first | ((with_reducible refine gate_callee (f := 50) rfl ?_); refine goesL_ (some 11) rfl rfl Tryz.func50 (by kernel_rfl) rfl #[.string a0] rfl (by (try simp only [List.map_toArray, List.map_cons, List.map_nil]); first | done | rfl | (simp only [List.length_drop, List.length_take]; rfl)) ?_; (with_reducible refine (impl_told.calls a0 t279 t280 false _ (HLd.out.below (by repeat first|exact HB.out|apply bA|apply bN|apply bD)) A2.out).mono ?_); rintro e w14 ⟨v282, rfl, ho0, hb⟩; refine ⟨_, rfl, ?_⟩; have n0_ := Az.mk (Kd.R_lower ho0 (bZ (by repeat first|exact HB.out|apply bA|apply bN|apply bD))); have n1_ := Az.mk (bS (by repeat first|exact HB.out|apply bA|apply bN|apply bD) hb); clear HB; have HO283 := n0_; have HB := n1_; clear n0_ n1_; (try clear hb); (try clear hb2); (try clear hk); (try clear hi); (try clear ho0)))
  go_ret
  exact ⟨by first | rfl | (simp [errW_none, errW_some] <;> rfl) | (simp [*, errW_none, errW_some] <;> rfl), by repeat (first | (with_reducible first|exact HB.out|apply bA|apply bN|apply bD) | exact HB.out)⟩
end Go.Proofs.YtndjbnkmhpbnpaaGreatDoor.Pr
namespace Go.Proofs.YtndjbnkmhpbnpaaGreatDoor.Pr
open Go.RowKit Go.Proofs.YtndjbnkmhpbnpaaGreatDoorW.PrintWords Go.Proofs.YtndjbnkmhpbnpaaGreatDoorW.PrintLast Go.Proofs.YtndjbnkmhpbnpaaGreatDoorW.PrintMore
def mst (xs : List S31) : Nat → Int → Int → Int
 | 0, _, a => a
 | d + 1, i, a => mst xs d (i + 1) (mx a ((alv xs 0 i).length : Int))
def mostOf (a0 : ByteArray) : Int := if (toldOf a0).2.2 = true then mst (lvs (toldOf a0).1) (toldOf a0).1.length 0 0 else -1
theorem mostI_go (xs : List S31) (hx : xs.length ≤ 1000000) (n : Nat) (hn : n ≤ 1000000) : ∀ (d i : Nat) (a : Int), i + d = n →
  Ev (fun k => impl_MostAlive.l0 k a xs (n : Int) (i : Int)) (mst xs d i a)
 | 0, i, a, hi => by
  refine Ev.step (fun k => impl_MostAlive.l0.eq_2 (k := k) ..) ?_
  simp only [if_neg (show ¬ ((i : Int) < (n : Int)) by omega)]
  exact Ev.now _
 | d + 1, i, a, hi => by
  have ih := mostI_go xs hx n hn d (i + 1) (mx a ((alv xs 0 i).length : Int)) (by omega)
  refine Ev.step (fun k => impl_MostAlive.l0.eq_2 (k := k) ..) ?_
  simp only [if_pos (show ((i : Int) < (n : Int)) by omega)]
  refine Ev.bind (alive_ev _ _ hx) ?_
  rw [wrap_up (by omega)]
  exact ih
theorem mostI_ev (a0 : ByteArray) (hs : a0.size ≤ 1048576) : Ev (fun k => impl_MostAlive.f k a0) (mostOf a0) := by
 obtain ⟨m, l, g, hm, hl⟩ := told_good a0
 have h1 := g.lvs_length
 have h2 := g.made
 unfold impl_MostAlive.f mostOf
 simp only [told_f a0 hs, Option.bind_some, hm]
 split
 ·simp only [lives_told g (by omega), Option.bind_some]
  exact mostI_go _ (by omega) _ (by omega) _ 0 0 (Nat.zero_add _)
 ·exact Ev.now _
end Go.Proofs.YtndjbnkmhpbnpaaGreatDoor.Pr
namespace Go.Proofs.YtndjbnkmhpbnpaaGreatDoor.Pr
open Go.RowKit Go.Proofs.YtndjbnkmhpbnpaaGreatDoorW.PrintWords Go.Proofs.YtndjbnkmhpbnpaaGreatDoorW.PrintLast Go.Proofs.YtndjbnkmhpbnpaaGreatDoorW.PrintMore
set_option linter.unusedVariables false
set_option linter.unusedSimpArgs false
def Act1 (e : S55) : Bool := decide (e.f0.toList ≠ [45])
theorem early_act (xs : List S31) : ∀ (o : List S55) (i : Int), (early xs o i).filter Act1 = o.filter Act1
 | [], i => rfl
 | a :: r, i => by
  rw [early, List.filter_append, early_act xs r]
  unfold early1
  by_cases ha : a.f0.toList = [45]
  ·have h1 : Act1 a = false := by unfold Act1; rw [ha]; decide
   rw [if_pos ha, List.filter_cons_of_neg (by rw [h1]; decide)]
   rfl
  ·have h1 : Act1 a = true := by unfold Act1; exact decide_eq_true ha
   have h2 : Act1 (⟨bs [45], a.f1⟩ : S55) = false := by unfold Act1; rw [bs_toList]; decide
   rw [if_neg ha, List.filter_cons_of_pos h1]
   split
   ·rw [List.filter_cons_of_pos h1, List.filter_cons_of_neg (by rw [h2]; decide)]
    rfl
   ·rw [List.filter_cons_of_pos h1]
    rfl
theorem Good.gone {o : List S55} {m : Nat} {l : List Int} (g : Good o m l) : ∀ e ∈ o, e.f0.toList = [45] → e.f1 ∉ l := by
 induction g with
 | nil => intro e he; cases he
 | make g hs ih =>
  intro e he h45 hl
  rcases List.mem_append.1 he with he | he
  ·rcases List.mem_append.1 hl with hl | hl
   ·exact ih e he h45 hl
   ·have := g.values e he
    have := List.mem_singleton.1 hl
    omega
  ·have := List.mem_singleton.1 he
   subst this
   rw [hs] at h45
   exact absurd h45 (by decide)
 | use g hs hn ih =>
  intro e he h45 hl
  rcases List.mem_append.1 he with he | he
  ·exact ih e he h45 hl
  ·have := List.mem_singleton.1 he
   subst this
   rw [hs] at h45
   exact absurd h45 (by decide)
 | kill g hs hn ih =>
  intro e he h45 hl
  have hl' := List.mem_filter.1 hl
  rcases List.mem_append.1 he with he | he
  ·exact ih e he h45 hl'.1
  ·have := List.mem_singleton.1 he
   subst this
   simpa using hl'.2
theorem Good.ends_once {o : List S55} {m : Nat} {l : List Int} (g : Good o m l) : (o.filter (fun e => !Act1 e)).Nodup := by
 induction g with
 | nil => exact List.nodup_nil
 | make g hs ih =>
  rw [List.filter_append, List.filter_cons_of_neg (by unfold Act1; rw [hs]; decide)]
  simpa using ih
 | use g hs hn ih =>
  rw [List.filter_append, List.filter_cons_of_neg (by unfold Act1; rw [hs]; decide)]
  simpa using ih
 | @kill o m l s n g hs hn ih =>
  rw [List.filter_append, List.filter_cons_of_pos (by unfold Act1; rw [hs]; decide), List.filter_nil]
  rw [List.nodup_append]
  refine ⟨ih, by simp, fun a ha b hb => ?_⟩
  have := List.mem_singleton.1 hb
  subst this
  rintro rfl
  have hm := List.mem_filter.1 ha
  exact g.gone _ hm.1 hs hn
theorem Good.early_perm {o : List S55} {m : Nat} {l : List Int} (g : Good o m l) (ht : ∀ e ∈ o, Tidy e) : (Pr.early (lvs o) o 0).Perm o := by
 obtain ⟨l', gE⟩ := g.early_all
 have h1 : ((Pr.early (lvs o) o 0).filter (fun e => !Act1 e)).Perm (o.filter (fun e => !Act1 e)) := by
  refine (List.perm_ext_iff_of_nodup gE.ends_once g.ends_once).2 (fun x => ?_)
  rw [List.mem_filter, List.mem_filter]
  constructor
  ·rintro ⟨hx, ha⟩
   have h45 : x.f0.toList = [45] := by
    unfold Act1 at ha
    simpa using ha
   refine ⟨?_, ha⟩
   obtain ⟨p, hp⟩ := List.mem_iff_getElem?.1 hx
   obtain ⟨q, e', _, _, _, _, h5⟩ := early_minus _ _ _ _ _ hp h45
   have hv := gE.values _ hx
   obtain ⟨j, hj, _, S, K⟩ := g.lv_at hv.1 hv.2
   obtain ⟨d, hd, e, hd1, hd2, hd3⟩ := S.dead h5
   have : e = x := by
    have hb1 := bs_of hd2
    have hb2 := bs_of h45
    cases e; cases x
    simp_all
   rw [← this]
   exact List.mem_of_getElem? hd1
  ·rintro ⟨hx, ha⟩
   have h45 : x.f0.toList = [45] := by
    unfold Act1 at ha
    simpa using ha
   refine ⟨?_, ha⟩
   obtain ⟨p, hp⟩ := List.mem_iff_getElem?.1 hx
   have hv := g.values _ hx
   obtain ⟨j, hj, _, S, K⟩ := g.lv_at hv.1 hv.2
   have hd := S.died p _ hp hj h45
   obtain ⟨u, hu, e, hu1, hu2, hu3⟩ := S.used
   refine (early_mem _ _ _ _).2 ⟨u, e, hu1, ?_⟩
   unfold early1
   rw [if_neg hu2, if_pos ⟨by rw [hu3, ← hj, hu]; omega, by rw [hu3, ← hj]; omega⟩]
   have : x = ⟨bs [45], e.f1⟩ := by
    have hb := bs_of h45
    rw [← hb, hu3, ← hj]
   rw [this]
   simp
 have h2 := (List.filter_append_perm Act1 (Pr.early (lvs o) o 0)).symm
 have h3 := List.filter_append_perm Act1 o
 rw [early_act] at h2
 exact h2.trans ((List.Perm.append_left _ h1).trans h3)
theorem jn_size : ∀ ps : List (List UInt8), ps ≠ [] → (jn ps).length + 1 = (ps.map (fun p => p.length + 1)).sum
 | [], h => absurd rfl h
 | [p], _ => by simp [jn_one]
 | p :: q :: r, _ => by
  have ih := jn_size (q :: r) (by simp)
  rw [jn_cons]
  simp only [List.map_cons, List.sum_cons, List.length_append, List.length_singleton] at ih ⊢
  omega
theorem txt_perm {a b : List S55} (h : a.Perm b) : (txt (a.map piece)).size = (txt (b.map piece)).size := by
 by_cases hb : b = []
 ·subst hb
  rw [h.eq_nil]
 ·have ha : a ≠ [] := fun e => hb (by rw [e] at h; exact h.symm.eq_nil)
  unfold txt
  rw [if_neg (by simpa using ha), if_neg (by simpa using hb), bs_size, bs_size]
  have h1 := jn_size (a.map piece) (by simpa using ha)
  have h2 := jn_size (b.map piece) (by simpa using hb)
  have h3 := ((h.map piece).map (fun p => p.length + 1)).sum_nat
  omega
theorem mx_le {a b k : Int} : mx a b ≤ k ↔ a ≤ k ∧ b ≤ k := by unfold mx; split <;> omega
theorem mst_le (xs : List S31) (K : Int) : ∀ (d : Nat) (i a : Int), mst xs d i a ≤ K ↔ a ≤ K ∧ ∀ j : Nat, j < d → ((alv xs 0 (i + j)).length : Int) ≤ K
 | 0, i, a => by simp [mst]
 | d + 1, i, a => by
  rw [mst, mst_le xs K d (i + 1), mx_le]
  constructor
  ·rintro ⟨⟨h1, h2⟩, h3⟩
   refine ⟨h1, fun j hj => ?_⟩
   cases j with
   | zero => simpa using h2
   | succ j =>
    have := h3 j (by omega)
    rw [show i + ((j + 1 : Nat) : Int) = i + 1 + (j : Int) by omega]
    exact this
  ·rintro ⟨h1, h2⟩
   refine ⟨⟨h1, by have := h2 0 (by omega); simpa using this⟩, fun j hj => ?_⟩
   have := h2 (j + 1) (by omega)
   rw [show i + ((j + 1 : Nat) : Int) = i + 1 + (j : Int) by omega] at this
   exact this
def Most (o : List S55) (K : Int) : Prop := 0 ≤ K ∧ ∀ (i m : Nat) (l : List Int), i ≤ o.length → Good (o.take i) m l → (l.length : Int) ≤ K
theorem Good.most {o : List S55} {m : Nat} {l : List Int} (g : Good o m l) (K : Int) : mst (lvs o) o.length 0 0 ≤ K ↔ Most o K := by
 rw [mst_le]
 constructor
 ·rintro ⟨h0, h⟩
  refine ⟨h0, fun i m' l' hi g' => ?_⟩
  cases i with
  | zero =>
   rw [List.take_zero] at g'
   obtain ⟨rfl, rfl⟩ := g'.uniq .nil
   simpa using h0
  | succ i =>
   have := h i (by omega)
   have ha := g.alv_take (i + 1) m' l' hi g'
   rw [show ((i + 1 : Nat) : Int) - 1 = 0 + (i : Int) by omega] at ha
   rw [ha] at this
   exact this
 ·rintro ⟨h0, h⟩
  refine ⟨h0, fun j hj => ?_⟩
  obtain ⟨e, m1, l1, h1, h2, h3, h4, h5⟩ := g.step j hj
  have hex : ∃ m' l', Good (o.take (j + 1)) m' l' := by
   rcases h5 with ⟨_, _, _, g2⟩ | ⟨_, _, g2⟩ | ⟨_, _, g2⟩ <;> exact ⟨_, _, g2⟩
  obtain ⟨m', l', g'⟩ := hex
  have ha := g.alv_take (j + 1) m' l' (by omega) g'
  rw [show ((j + 1 : Nat) : Int) - 1 = 0 + (j : Int) by omega] at ha
  rw [ha]
  exact h (j + 1) m' l' (by omega) g'
theorem Good.last_step {o : List S55} {e : S55} {m : Nat} {l : List Int} (g : Good (o ++ [e]) m l) : ∃ m0 l0, Good o m0 l0 ∧ l.length ≤ l0.length + 1 ∧ (e.f0.toList ≠ [43] → l.length ≤ l0.length) := by
 obtain ⟨e', m1, l1, h1, h2, h3, h4, h5⟩ := g.step o.length (by simp)
 have he : e = e' := by
  have := get_end o e
  rw [h1] at this
  exact (Option.some.inj this).symm
 subst he
 have t1 : (o ++ [e]).take o.length = o := take_end.1
 have t2 : (o ++ [e]).take (o.length + 1) = o ++ [e] := take_end.2.1
 rw [t1] at h3
 refine ⟨m1, l1, h3, ?_⟩
 rw [t2] at h5
 rcases h5 with ⟨hs, _, _, g2⟩ | ⟨hs, _, g2⟩ | ⟨hs, _, g2⟩
 ·obtain ⟨rfl, rfl⟩ := g.uniq g2
  exact ⟨by simp, fun h => absurd hs h⟩
 ·obtain ⟨rfl, rfl⟩ := g.uniq g2
  exact ⟨by omega, fun _ => Nat.le_refl _⟩
 ·obtain ⟨rfl, rfl⟩ := g.uniq g2
  have := List.length_filter_le (fun y => y != e.f1) l1
  exact ⟨by omega, fun _ => this⟩
theorem Good.early_most_go {o : List S55} {m : Nat} {l : List Int} (g : Good o m l) {K : Int} (hK : Most o K) : ∀ i : Nat, i ≤ o.length → ∀ (p m' : Nat) (l' : List Int), p ≤ (Pr.early (lvs o) (o.take i) 0).length → Good ((Pr.early (lvs o) (o.take i) 0).take p) m' l' → (l'.length : Int) ≤ K
 | 0, _, p, m', l', hp, g' => by
  rw [List.take_zero, Pr.early, List.take_nil] at g'
  obtain ⟨rfl, rfl⟩ := g'.uniq .nil
  simpa using hK.1
 | i + 1, hi, p, m', l', hp, g' => by
  obtain ⟨e, m1, l1, h1, h2, h3, h4, h5⟩ := g.step i (by omega)
  have hex : ∃ m2 l2, Good (o.take (i + 1)) m2 l2 ∧ (e.f0.toList = [43] → l2.length = l1.length + 1) ∧ (e.f0.toList = [46] → l2.length = l1.length) := by
   rcases h5 with ⟨hs, _, _, g2⟩ | ⟨hs, _, g2⟩ | ⟨hs, _, g2⟩
   ·exact ⟨_, _, g2, fun _ => by simp, fun h => by rw [hs] at h; exact absurd h (by decide)⟩
   ·exact ⟨_, _, g2, fun h => by rw [hs] at h; exact absurd h (by decide), fun _ => rfl⟩
   ·exact ⟨_, _, g2, fun h => by rw [hs] at h; exact absurd h (by decide), fun h => by rw [hs] at h; exact absurd h (by decide)⟩
  obtain ⟨m2, l2, g2, hl43, hl46⟩ := hex
  have hk2 := hK.2 (i + 1) m2 l2 hi g2
  have ge1 := g.early i m1 l1 (by omega) h3
  have ge2 := g.early (i + 1) m2 l2 hi g2
  rw [early_take (by omega) h2] at g' hp ge2
  have hwhole : ∀ q, (Pr.early (lvs o) (o.take i) 0 ++ early1 (lvs o) e i).length ≤ q → p = q → (l'.length : Int) ≤ K := by
   intro q hq hpq
   rw [List.take_of_length_le (by omega)] at g'
   obtain ⟨rfl, rfl⟩ := g'.uniq ge2
   have := List.length_filter_le (Want (lvs o) (i + 1)) l2
   omega
  by_cases hpl : p ≤ (Pr.early (lvs o) (o.take i) 0).length
  ·rw [List.take_append_of_le_length hpl] at g'
   exact Good.early_most_go g hK i (by omega) p m' l' hpl g'
  ·rw [List.length_append] at hp
   by_cases h45 : e.f0.toList = [45]
   ·have hz : early1 (lvs o) e i = [] := by unfold early1; rw [if_pos h45]
    rw [hz] at hp
    simp at hp
    omega
   ·by_cases hC : (rd_T31 (lvs o) (e.f1 - 1)).f1 = (i : Int) ∧ (rd_T31 (lvs o) (e.f1 - 1)).f2 ≥ 0
    ·have hz : early1 (lvs o) e i = [e, ⟨bs [45], e.f1⟩] := by unfold early1; rw [if_neg h45, if_pos hC]
     rw [hz] at hp
     simp only [List.length_cons, List.length_nil] at hp
     by_cases hp2 : p = (Pr.early (lvs o) (o.take i) 0).length + 2
     ·exact hwhole p (by rw [hz]; simp; omega) rfl
     ·have hp1 : p = (Pr.early (lvs o) (o.take i) 0).length + 1 := by omega
      have ht : (Pr.early (lvs o) (o.take i) 0 ++ early1 (lvs o) e i).take p = Pr.early (lvs o) (o.take i) 0 ++ [e] := by
       rw [hz, show Pr.early (lvs o) (o.take i) 0 ++ [e, ⟨bs [45], e.f1⟩] = (Pr.early (lvs o) (o.take i) 0 ++ [e]) ++ [⟨bs [45], e.f1⟩] by simp, List.take_append_of_le_length (by rw [List.length_append, List.length_singleton]; omega), List.take_of_length_le (by rw [List.length_append, List.length_singleton]; omega)]
      rw [ht] at g'
      obtain ⟨m0, l0, g0, q1, q2⟩ := g'.last_step
      obtain ⟨rfl, rfl⟩ := g0.uniq ge1
      have hf := List.length_filter_le (Want (lvs o) i) l1
      rcases h5 with ⟨hs, _⟩ | ⟨hs, _⟩ | ⟨hs, _⟩
      ·have := hl43 hs
       omega
      ·have := hl46 hs
       have := q2 (by rw [hs]; decide)
       omega
      ·exact absurd hs h45
    ·have hz : early1 (lvs o) e i = [e] := by unfold early1; rw [if_neg h45, if_neg hC]
     rw [hz] at hp
     simp only [List.length_cons, List.length_nil] at hp
     exact hwhole p (by rw [hz]; simp; omega) rfl
theorem Good.early_most {o : List S55} {m : Nat} {l : List Int} (g : Good o m l) : mst (lvs (Pr.early (lvs o) o 0)) (Pr.early (lvs o) o 0).length 0 0 ≤ mst (lvs o) o.length 0 0 := by
 obtain ⟨l', gE⟩ := g.early_all
 have hK := (g.most _).1 (Int.le_refl _)
 refine (gE.most _).2 ⟨hK.1, fun i m' l' hi g' => ?_⟩
 have h := g.early_most_go hK o.length (Nat.le_refl _) i m' l'
 rw [List.take_length] at h
 exact h hi g'
end Go.Proofs.YtndjbnkmhpbnpaaGreatDoor.Pr
namespace Go.Proofs.YtndjbnkmhpbnpaaGreatDoor.Pr
open Go.RowKit Go.Maps Go.Proofs.YtndjbnkmhpbnpaaGreatDoorW.PrintWords Go.Proofs.YtndjbnkmhpbnpaaGreatDoorW.PrintLast Go.Proofs.YtndjbnkmhpbnpaaGreatDoorW.PrintMore
attribute [local go_sem] max2_int max_two
set_option linter.unusedVariables false
def KeyMap (w : World) (B n : Nat) (L : List Int) : Prop :=
  ∃ D : DataW Unit, w.ownsMap Tryz.prog 3 (plainElem Tryz.prog 4) B n D ∧ IsMap D ∧ (∀ x : Int, D.atKey (.int .i64 x) (.lit (.bool false)) = .lit (.bool (decide (x ∈ L)))) ∧ ∀ x : Int, has D (.int .i64 x) = decide (x ∈ L)
theorem KeyMap.alive {w : World} {B n : Nat} {L : List Int} (h : KeyMap w B n L) : AliveMap w B n L := by
  obtain ⟨D, h1, h2, h3, _⟩ := h
  exact ⟨D, h1, h2, h3⟩
theorem KeyMap.start (w : World) : KeyMap (w.alloc (.map #[] 0)) w.heap.size 0 [] := ⟨.map [], World.ownsMap_made w _ _ _, isMap_empty, fun x => by simp; rfl, fun x => by simp; rfl⟩
theorem KeyMap.lt {w : World} {B n : Nat} {L : List Int} (h : KeyMap w B n L) : B < w.heap.size := h.alive.lt
theorem KeyMap.kept {w w' : World} {B n : Nat} {L : List Int} (h : KeyMap w B n L) (hb : w'.heap[B]? = w.heap[B]?) : KeyMap w' B n L := by
  obtain ⟨D, ⟨es, clock, h1, h2⟩, h3⟩ := h
  exact ⟨D, ⟨es, clock, by rw [hb]; exact h1, h2⟩, h3⟩
theorem KeyMap.below {w w' : World} {B n : Nat} {L : List Int} (h : KeyMap w B n L) (hb : Below w.heap.size w w') : KeyMap w' B n L := h.kept (hb.block _ h.lt)
section
variable {ops : Array Oper} {rest : List Oper} {o : Oper} {a : Act} {Q : Exit → Act → World → Prop}
set_option maxRecDepth 100000 in
theorem wpList_kborn {W : World} {B n : Nat} {L : List Int} (hg : o.guard = none) (m x v : Operand) (hop : o.op = Op.mapUpdate 71 m x v) (hm : a.eval m = .map (some B)) (h : KeyMap W B n L) (hn : n < 1000000) (key : Int)
    (hx : a.eval x = .int .i64 key) (hv : a.eval v = .bool true) (hkw : (Lit.int .i64 key).wf = true)
    (hK : ∀ W', KeyMap W' B (n + 1) (L ++ [key]) → W.grownBy W' (some B) → wpList Tryz.prog ops Q rest (a.put o.dst undef) W') : wpList Tryz.prog ops Q (o :: rest) a W := by
  obtain ⟨D, h1, h2, h3, h4⟩ := h
  refine wpList_mapUpdate_own W hg m x v 71 hop 3 4 keyed3 Tryz.underlying71 (plainElem Tryz.prog 4) B n D hm h1 (by unfold maxLen; omega) _ _ _ hx hv (int_key hkw) (.lit (.bool true)) [] (plainElem_bool Tryz.underlying4 true) ?_
  intro W' h1' hg'
  refine hK W' ⟨_, h1', h2.put _ _, fun y => ?_, fun y => ?_⟩ hg'
  · by_cases hy : y = key
    · subst hy
      rw [atKey_put_same h2 (by exact trivial)]
      simp
    · rw [atKey_put_other (by intro e; injection e with _ e; exact hy e), h3 y]
      simp [hy]
  · by_cases hy : y = key
    · subst hy
      rw [has_put_same h2 (by exact trivial)]
      simp
    · rw [has_put_other (by intro e; injection e with _ e; exact hy e), h4 y]
      simp [hy]
set_option maxRecDepth 100000 in
theorem wpList_kdead {W : World} {B n : Nat} {L : List Int} (hg : o.guard = none) (m x : Operand) (hop : o.op = Op.call { callee := Callee.builtin Builtin.delete, args := #[m, x], argTypes := #[71, 3] }) (hm : a.eval m = .map (some B)) (h : KeyMap W B n L) (key : Int)
    (hx : a.eval x = .int .i64 key) (hkw : (Lit.int .i64 key).wf = true)
    (hK : ∀ W', KeyMap W' B n (L.filter (fun y => y != key)) → W.grownBy W' (some B) → wpList Tryz.prog ops Q rest (a.put o.dst (.tuple #[])) W') : wpList Tryz.prog ops Q (o :: rest) a W := by
  obtain ⟨D, h1, h2, h3, h4⟩ := h
  refine wpList_delete_own _ hg m x 71 3 hop 4 keyed3 Tryz.underlying71 (plainElem Tryz.prog 4) B n D hm h1 _ _ hx (int_key hkw) ?_
  intro W' h1' hg'
  refine hK W' ⟨_, h1', h2.del _, fun y => ?_, fun y => ?_⟩ hg'.grown
  · by_cases hy : y = key
    · subst hy
      rw [atKey_del_same]
      simp
    · rw [atKey_del_other (by intro e; injection e with _ e; exact hy e), h3 y]
      simp [hy]
  · by_cases hy : y = key
    · subst hy
      rw [has_del_same]
      simp
    · rw [has_del_other (by intro e; injection e with _ e; exact hy e), h4 y]
      simp [hy]
end
theorem wf_of {x : Int} (h1 : -9223372036854775808 ≤ x) (h2 : x ≤ 9223372036854775807) : (Lit.int .i64 x).wf = true := by
  simp only [Lit.wf, Bool.and_eq_true, decide_eq_true_eq]
  exact ⟨h1, h2⟩
theorem filt_lt (L : List Int) (i : Int) (h : i ∈ L) : (L.filter (fun y => decide (i + 1 ≤ y))).length < (L.filter (fun y => decide (i ≤ y))).length := by
  have key : ∀ l : List Int, (l.filter (fun y => decide (i + 1 ≤ y))).length ≤ (l.filter (fun y => decide (i ≤ y))).length := by
    intro l
    induction l with
    | nil => simp
    | cons a r ih =>
      by_cases h1 : i + 1 ≤ a
      · rw [List.filter_cons_of_pos (by simpa using h1), List.filter_cons_of_pos (by simp; omega)]
        simpa using ih
      · rw [List.filter_cons_of_neg (by simpa using h1)]
        by_cases h2 : i ≤ a
        · rw [List.filter_cons_of_pos (by simpa using h2)]
          simp; omega
        · rw [List.filter_cons_of_neg (by simpa using h2)]
          exact ih
  induction L with
  | nil => cases h
  | cons a r ih =>
    rcases List.mem_cons.1 h with rfl | h
    · rw [List.filter_cons_of_neg (by simp; omega), List.filter_cons_of_pos (by simp)]
      have := key r
      simp; omega
    · have := ih h
      by_cases h1 : i + 1 ≤ a
      · rw [List.filter_cons_of_pos (by simpa using h1), List.filter_cons_of_pos (by simp; omega)]
        simpa using this
      · rw [List.filter_cons_of_neg (by simpa using h1)]
        by_cases h2 : i ≤ a
        · rw [List.filter_cons_of_pos (by simpa using h2)]
          simp; omega
        · rw [List.filter_cons_of_neg (by simpa using h2)]
          exact this
def fmeas (L : List Int) (i : Int) : Nat := (L.filter (fun y => decide (i ≤ y))).length
def ffree (L : List Int) (i : Nat) : Nat := if (i : Int) ∈ L then ffree L (i + 1) else i
termination_by (L.filter (fun y => decide ((i : Int) ≤ y))).length
decreasing_by
  rename_i h
  exact filt_lt L i h
theorem ffree_in {L : List Int} {i : Nat} (h : (i : Int) ∈ L) : ffree L i = ffree L (i + 1) := by rw [ffree, if_pos h]
theorem ffree_out {L : List Int} {i : Nat} (h : ¬ (i : Int) ∈ L) : ffree L i = i := by rw [ffree, if_neg h]
set_option maxRecDepth 1000000 in
theorem first_any (w : World) (B n : Nat) (L : List Int) (h : KeyMap w B n L) (hb : ∀ y ∈ L, y ≤ 1000000) :
    Calls Tryz.prog 59 #[.map (some B)] w fun e w' => e = .returned (.int .i64 (ffree L 0 : Nat)) ∧ w' = w := by
  have HM := Lib.hid h
  have HBD := Lib.hid hb
  clear h hb
  go_enter Tryz.func59, Tryz.ntmps59
  go_wp2_with fail
  go_loopw [3] (fun v3 wr => ∃ c : Nat, v3 = .int .i64 c ∧ c ≤ 1000001 ∧ ffree L 0 = ffree L c ∧ wr = w) (fun v3 _ => fmeas L (intOf v3))
  case atStart => exact ⟨0, rfl, by omega, rfl, rfl⟩
  case round =>
    obtain ⟨c, rfl, hc, hF, rfl⟩ := hrel
    have HF := Lib.hid hF
    have hcw : (Lit.int .i64 (c : Int)).wf = true := wf_of (by omega) (by omega)
    have hlk := HM.out.alive.look hcw
    clear hF
    by_cases hin : (c : Int) ∈ L
    · have hlk1 : (Instr.lookup 71 (.map (some B)) (.int .i64 c) false).run Tryz.prog wr = .ok (.bool true) wr := by rw [hlk, decide_eq_true hin]
      have HIN := Lib.hid hin
      have hc2 := HBD.out _ hin
      clear hlk hin
      go_wp2_with fail
      go_roundw
      case rel => exact ⟨c + 1, by go_num, by omega, HF.out.trans (ffree_in HIN.out), by first | rfl | trivial⟩
      case measure =>
        have : fmeas L ((c : Int) + 1) < fmeas L (c : Int) := filt_lt L c HIN.out
        simpa [intOf] using this
    · have hlk1 : (Instr.lookup 71 (.map (some B)) (.int .i64 c) false).run Tryz.prog wr = .ok (.bool false) wr := by rw [hlk, decide_eq_false hin]
      have HIN := Lib.hid hin
      clear hlk hin
      go_wp2_with fail
      go_ret
      exact ⟨by rw [HF.out, ffree_out HIN.out]; rfl, rfl⟩
def cntGo : List Int → Int → Int
  | [], a => a
  | x :: r, a => cntGo r (mx a (x + 1))
def cntOf (L : List Int) : Int := cntGo L 0
theorem cntGo_le : ∀ (L : List Int) (a : Int), a ≤ cntGo L a ∧ ∀ x ∈ L, x + 1 ≤ cntGo L a
  | [], a => by simp [cntGo]
  | x :: r, a => by
    have ih := cntGo_le r (mx a (x + 1))
    rw [cntGo]
    have h1 : a ≤ mx a (x + 1) ∧ x + 1 ≤ mx a (x + 1) := by unfold mx; split <;> omega
    refine ⟨by omega, fun y hy => ?_⟩
    rcases List.mem_cons.1 hy with rfl | hy
    · omega
    · exact ih.2 y hy
theorem cntGo_is : ∀ (L : List Int) (a : Int), cntGo L a = a ∨ ∃ x ∈ L, cntGo L a = x + 1
  | [], a => .inl rfl
  | x :: r, a => by
    rw [cntGo]
    rcases cntGo_is r (mx a (x + 1)) with h | ⟨y, hy, h⟩
    · have h1 : mx a (x + 1) = a ∨ mx a (x + 1) = x + 1 := by unfold mx; split <;> simp
      rcases h1 with h1 | h1
      · exact .inl (h.trans h1)
      · exact .inr ⟨x, by simp, h.trans h1⟩
    · exact .inr ⟨y, List.mem_cons_of_mem _ hy, h⟩
theorem cntOf_uniq {L : List Int} {c : Int} (h0 : 0 ≤ c) (hp : ∀ x ∈ L, 0 ≤ x) (h1 : ∀ x ∈ L, x + 1 ≤ c) (h2 : c = 0 ∨ ∃ x ∈ L, c = x + 1) : c = cntOf L := by
  have a := cntGo_le L 0
  have b := cntGo_is L 0
  unfold cntOf
  rcases h2 with rfl | ⟨x, hx, rfl⟩
  · rcases b with b | ⟨y, hy, b⟩
    · exact b.symm
    · have := h1 y hy
      have := hp y hy
      omega
  · have := a.2 x hx
    rcases b with b | ⟨y, hy, b⟩
    · have := hp x hx
      omega
    · have := h1 y hy
      omega
set_option maxRecDepth 100000 in
theorem plain_bool_inv (v : Value) (y : DataW Unit × List MemPlace) (h : plainElem Tryz.prog 4 v = some y) : ∃ c, v = .bool c := by
  unfold plainElem at h
  rw [Tryz.underlying4] at h
  cases v with
  | bool b => exact ⟨b, rfl⟩
  | _ => simp at h
section
variable {ops : Array Oper} {rest : List Oper} {o : Oper} {a : Act} {Q : Exit → Act → World → Prop}
set_option maxRecDepth 100000 in
theorem wpList_next_keys {W : World} {B r n : Nat} {D : DataW Unit} {left : Lit → Bool} {cnt : Nat} (hg : o.guard = none) (it : Operand) (hop : o.op = Op.next it false) (hit : a.eval it = .pointer (some ⟨r, 0, none⟩)) (h : W.ranges Tryz.prog 3 (plainElem Tryz.prog 4) B r n D left cnt)
    (hDone : cnt = 0 → (∀ kl, left kl = false) → wpList Tryz.prog ops Q rest (a.put o.dst (.tuple #[.bool false])) W)
    (hMore : ∀ (x : Int) (v : Value) (w' : World) (cnt' : Nat), left (.int .i64 x) = true → (∃ y, ∀ zd, D.atKey (.int .i64 x) zd = y) → w'.ranges Tryz.prog 3 (plainElem Tryz.prog 4) B r n D (fun z => left z && !z.sameKey (.int .i64 x)) cnt' → cnt' < cnt →
      W.grownBy w' (some r) → w'.heap.size = W.heap.size → (Instr.entry (.pointer (some ⟨r, 0, none⟩))).run Tryz.prog w' = .ok (.tuple #[.int .i64 x, v]) w' → wpList Tryz.prog ops Q rest (a.put o.dst (.tuple #[.bool true, .int .i64 x, v])) w') :
    wpList Tryz.prog ops Q (o :: rest) a W := by
  refine wpList_next_ranges W hg it hop 3 keyed3 (plainElem Tryz.prog 4) (Value.int .i64) Value.bool (fun key kl hk => by obtain ⟨x, rfl, _⟩ := keyOf_int_inv Tryz.underlying3 hk; exact ⟨x, rfl⟩) plain_bool_inv B r n D left cnt hit h hDone ?_
  intro x b kl y w' cnt' hkey hlk _ hat hrg hlt hgr hsz hen
  obtain ⟨x', ex, rfl, _⟩ := keyOf_int_inv Tryz.underlying3 hkey
  cases ex
  exact hMore x (.bool b) w' cnt' hlk ⟨_, hat⟩ hrg hlt hgr hsz hen
end
theorem in_of_at {D : DataW Unit} {L : List Int} {x : Int} {y : DataW Unit} (h1 : D.atKey (.int .i64 x) (.lit (.bool false)) = .lit (.bool (decide (x ∈ L)))) (h2 : has D (.int .i64 x) = decide (x ∈ L)) (h : ∀ zd, D.atKey (.int .i64 x) zd = y) : x ∈ L := by
  by_cases hx : x ∈ L
  · exact hx
  · rw [decide_eq_false hx] at h2
    have e1 := (atKey_of_not_has h2 (.lit (.bool false))).symm.trans (h _)
    have e2 := (atKey_of_not_has h2 (.lit (.bool true))).symm.trans (h _)
    have := e1.trans e2.symm
    simp at this
theorem below_grown {w w' : World} (h : w.grownBy w' none) : Below w.heap.size w w' := ⟨h.os, h.tape, h.output, h.size, fun i hi => h.block i hi (by simp)⟩
set_option maxRecDepth 1000000 in
theorem above_any (w : World) (B n : Nat) (L : List Int) (h : KeyMap w B n L) (hb : ∀ y ∈ L, 0 ≤ y ∧ y ≤ 1000000) :
    Calls Tryz.prog 61 #[.map (some B)] w fun e w' => e = .returned (.int .i64 (cntOf L)) ∧ Below w.heap.size w w' := by
  obtain ⟨D, hown, hmap, hat, hhas⟩ := h
  have HBD := Lib.hid hb
  have HAT := Lib.hid hat
  have HHAS := Lib.hid hhas
  clear hb hat hhas hmap
  go_enter Tryz.func61, Tryz.ntmps61
  go_wp2_with (first | (at_range; refine wpList_range_own _ rfl _ 71 rfl 3 4 keyed3 Tryz.underlying71 (plainElem Tryz.prog 4) B n D rfl hown ?_; intro w0 hrg0 hg0 hs0; have HRG0 := Lib.hid hrg0; have HG0 := Lib.hid hg0; clear hrg0 hg0) | fail)
  go_frame
  go_loopw [3] (fun v3 wr => ∃ (left : Lit → Bool) (cnt : Nat) (c : Int), v3 = .int .i64 c ∧ wr.ranges Tryz.prog 3 (plainElem Tryz.prog 4) B w.heap.size n D left cnt ∧ 0 ≤ c ∧ c ≤ 1000001 ∧ (∀ x ∈ L, left (.int .i64 x) = false → x + 1 ≤ c) ∧ (c = 0 ∨ ∃ x ∈ L, c = x + 1) ∧ w.grownBy wr none) (fun _ wr => wr.rangeLeft B w.heap.size)
  case atStart =>
    refine ⟨_, _, 0, rfl, HRG0.out, Int.le_refl _, by omega, fun x hx hl => ?_, .inl rfl, HG0.out⟩
    rw [HHAS.out x, decide_eq_true hx] at hl
    cases hl
  case round =>
    obtain ⟨left, cnt, c, rfl, hrg, hc0, hc1, hcl, hci, hgw⟩ := hrel
    have HCL := Lib.hid hcl
    have HCI := Lib.hid hci
    have HGW := Lib.hid hgw
    have HRG := Lib.hid hrg
    clear hcl hci hgw hrg HRG0 HG0
    go_wp2_with (first | (at_next; refine wpList_next_keys rfl _ rfl rfl HRG.out ?_ ?_) | fail)
    · intro hcnt hall
      have HALL := Lib.hid hall
      clear hall
      go_wp2_with fail
      go_ret
      refine ⟨?_, ?_⟩
      · rw [← cntOf_uniq hc0 (fun x hx => (HBD.out x hx).1) (fun x hx => HCL.out x hx (HALL.out _)) HCI.out]
        rfl
      · exact below_grown HGW.out
    · intro x v w1 cnt1 hleft y hat2 hrg1 hlt hg1 hs1 hen
      have HIN := Lib.hid (in_of_at (HAT.out x) (HHAS.out x) hat2)
      have HRG1 := Lib.hid hrg1
      have HG1 := Lib.hid hg1
      have hx := HBD.out x HIN.out
      clear hat2 hrg1 hg1 hs1
      go_wp2_with fail
      go_roundw
      case rel =>
        refine ⟨_, cnt1, mx c (x + 1), by go_num, HRG1.out, ?_, ?_, fun z hz hl => ?_, ?_, HGW.out.andThen HG1.out (fun j hj => .inl (by injection hj with hj; omega))⟩
        · unfold mx; split <;> omega
        · unfold mx; split <;> omega
        · by_cases hzx : z = x
          · subst hzx; unfold mx; split <;> omega
          · have hs : (Lit.int .i64 z).sameKey (.int .i64 x) = false := sameKey_ne (by intro e; injection e with _ e; exact hzx e)
            simp only [hs, Bool.not_false, Bool.and_true] at hl
            have := HCL.out z hz hl
            unfold mx; split <;> omega
        · rcases HCI.out with h | ⟨z, hz, h⟩
          · right
            exact ⟨x, HIN.out, by unfold mx; split <;> omega⟩
          · unfold mx
            split
            · exact .inr ⟨x, HIN.out, rfl⟩
            · exact .inr ⟨z, hz, h⟩
      case measure =>
        rw [HRG1.out.left_eq, HRG.out.left_eq]
        exact hlt
section
variable {P : Program} {ops : Array Oper} {Q : Exit → Act → World → Prop}
theorem goesV_ {rest : List Oper} {oi : Oper} {a : Act} {w : World} (N : Option Tmp) (hd : oi.dst = N) (hg : oi.guard = none) {f : FuncId} {fn : Func} {m : Operand} {ars : Array Operand} {ts : Array TypeId} (hf : P.funcs[f]? = some fn) (hname : (fn.name == "runtime.NumGoroutine") = false) (hb : fn.body.isSome = true) (args : Array Value)
    (hop : oi.op = .call { callee := .value m, args := ars, argTypes := ts }) (hm : a.eval m = .func (.func f) #[] #[]) (hargs : ars.map a.eval = args)
    (h : Calls P f args w fun e w' => ∃ v, e = .returned v ∧ wpList P ops Q rest (a.put N v) w') : wpList P ops Q (oi :: rest) a w := by
  refine wpList_plain hg fun K hK => ?_
  have he := enters_ hf hname hb args w
  have hrun : (execOp a.eval oi).run P w = .ok (.enter f args) w := by
    unfold execOp
    simp [hop, resolve, hm, Deferred.ofValue, invoke, hargs, he]
  unfold Oper.wp
  rw [hrun, Oper.upon_enter]
  refine h.mono fun e w'' hh => ?_
  obtain ⟨v, rfl, hk⟩ := hh
  subst hd
  exact hK _ _ hk
end
structure Kst where
  xs : List Int
  L : List Int
  many : Int
def kstep (G : List Int → Int) (st : Kst) (e : S55) : Kst :=
  if e.f0.toList = [43] then ⟨st.xs.set (e.f1 - 1).toNat (G st.L), st.L ++ [G st.L], mx st.many (G st.L + 1)⟩
  else if e.f0.toList = [45] then ⟨st.xs, st.L.filter (fun y => y != rd st.xs (e.f1 - 1)), st.many⟩
  else st
def kloop (G : List Int → Int) : List S55 → Kst → Kst
  | [], st => st
  | e :: r, st => kloop G r (kstep G st e)
def keptOf (G : List Int → Int) (a0 : ByteArray) : List Int × Int × Bool :=
  if (toldOf a0).2.2 = true then ((kloop G (toldOf a0).1 ⟨List.replicate (toldOf a0).2.1.toNat 0, [], 0⟩).xs, (kloop G (toldOf a0).1 ⟨List.replicate (toldOf a0).2.1.toNat 0, [], 0⟩).many, true) else ([], -1, false)
structure Getter (g : Nat) (G : List Int → Int) : Prop where
  fn : ∃ fn, Tryz.prog.funcs[g]? = some fn ∧ (fn.name == "runtime.NumGoroutine") = false ∧ fn.body.isSome = true
  call : ∀ (w : World) (B n : Nat) (L : List Int), KeyMap w B n L → (∀ y ∈ L, 0 ≤ y ∧ y ≤ 1000000) → Calls Tryz.prog g #[.map (some B)] w fun e w' => e = .returned (.int .i64 (G L)) ∧ Below w.heap.size w w'
  bound : ∀ (L : List Int) (k : Nat), (∀ y ∈ L, 0 ≤ y ∧ y < k) → 0 ≤ G L ∧ G L ≤ k
structure KIn (w0 : World) (B n : Nat) (v : Value) (xs L : List Int) (wr : World) : Prop where
  below : Below w0.heap.size w0 wr
  map : KeyMap wr B n L
  baseB : w0.heap.size ≤ B
  row : Kd.R (Kd.int .i64) 3 wr w0.heap.size (fun _ => True) v xs
section
variable {w0 wr w' : World} {B n : Nat} {v v' : Value} {xs L : List Int}
theorem KIn.on (h : KIn w0 B n v xs L wr) (hb : Below wr.heap.size wr w') : KIn w0 B n v xs L w' :=
  ⟨h.below.trans (hb.mono h.below.size), h.map.below hb, h.baseB, Kd.Rb h.row hb⟩
theorem KIn.ne (h : KIn w0 B n v xs L wr) : some B ≠ v.ownBlock := by
  obtain ⟨es, clock, hm⟩ := h.map.alive.isMapObj
  intro e
  obtain ⟨cells, hc⟩ := Kd.R_typed h.row B e.symm
  rw [hm] at hc
  cases hc
theorem KIn.mapped (h : KIn w0 B n v xs L wr) {L' : List Int} {n' : Nat} (hm : KeyMap w' B n' L') (hg : wr.grownBy w' (some B)) : KIn w0 B n' v xs L' w' :=
  ⟨h.below.trans ⟨hg.os, hg.tape, hg.output, hg.size, fun k hk => hg.block k (Nat.lt_of_lt_of_le hk h.below.size) (fun e => by injection e with e; have := h.baseB; omega)⟩, hm, h.baseB,
   Kd.R_mono (Kd.R_grown (Kd.R_tight rfl h.row) hg (fun k hk e => h.ne (e.symm.trans hk))) (fun _ _ => trivial)⟩
theorem KIn.put {g cap m : Nat} (h : KIn w0 B n (.slice (some ⟨g, 0, none⟩) m cap) xs L wr) (i x : Int) (hg : w0.heap.size ≤ g) : KIn w0 B n (.slice (some ⟨g, 0, none⟩) m cap) (xs.set i.toNat x) L (wr.setCell ⟨g, i.toNat, none⟩ (.int .i64 x)) := by
  have hp := Kd.R_putg h.row i x
  exact ⟨below_set h.below hg, h.map.kept (hp.2.block _ h.map.lt (fun e => h.ne (by injection e with e; rw [e]; rfl))), h.baseB, hp.1⟩
end
structure KBox (w0 : World) (B n : Nat) (v : Value) (xs L : List Int) (b : Nat) (e : S55) (wr : World) : Prop extends KIn w0 B n v xs L wr where
  box : wr.heap[b]? = some (.cells #[.string e.f0, .int .i64 e.f1] 55 (0, 0))
section
variable {w0 wr w' : World} {B n b : Nat} {v v' : Value} {xs L : List Int} {e : S55}
theorem KBox.on (h : KBox w0 B n v xs L b e wr) (hb : Below wr.heap.size wr w') : KBox w0 B n v xs L b e w' := ⟨h.toKIn.on hb, (hb.block _ (blk_lt h.box)).trans h.box⟩
theorem KBox.c0 (h : KBox w0 B n v xs L b e wr) : wr.cell? ⟨b, 0, none⟩ = some (.string e.f0) := (blk_cell h.box 0).trans rfl
theorem KBox.c1 (h : KBox w0 B n v xs L b e wr) : wr.cell? ⟨b, 1, none⟩ = some (.int .i64 e.f1) := (blk_cell h.box 1).trans rfl
theorem KBox.mapped (h : KBox w0 B n v xs L b e wr) {L' : List Int} {n' : Nat} (hm : KeyMap w' B n' L') (hg : wr.grownBy w' (some B)) : KBox w0 B n' v xs L' b e w' :=
  ⟨h.toKIn.mapped hm hg, (hg.block _ (blk_lt h.box) (fun he => by
    obtain ⟨es, clock, hm⟩ := h.map.alive.isMapObj
    injection he with he
    have := h.box
    rw [he, hm] at this
    cases this)).trans h.box⟩
theorem KBox.put {g cap m : Nat} (h : KBox w0 B n (.slice (some ⟨g, 0, none⟩) m cap) xs L b e wr) (i x : Int) (hg : w0.heap.size ≤ g) : KBox w0 B n (.slice (some ⟨g, 0, none⟩) m cap) (xs.set i.toNat x) L b e (wr.setCell ⟨g, i.toNat, none⟩ (.int .i64 x)) := by
  have hp := Kd.R_putg h.row i x
  exact ⟨h.toKIn.put i x hg, (hp.2.block _ (blk_lt h.box) (fun he => by
    obtain ⟨cells, hc⟩ := Kd.R_typed h.row g rfl
    injection he with he
    have := h.box
    rw [he, hc] at this
    injection this with this
    injection this with _ this
    cases this)).trans h.box⟩
end
theorem rd_mem (xs : List Int) {i : Int} (h0 : 0 ≤ i) (h1 : i < (xs.length : Int)) : rd xs i ∈ xs := by
  unfold rd
  rw [List.getD_eq_getElem?_getD, List.getElem?_eq_getElem (by omega)]
  exact List.getElem_mem _
def KRel (G : List Int → Int) (w0 : World) (B : Nat) (l : List S55) (m : Nat) (v : Value) (v12 v29 : Value) (wr : World) : Prop :=
  ∃ (k : Nat) (st : Kst) (n : Nat), k ≤ l.length ∧ v29 = .int .i64 k ∧ v12 = .int .i64 st.many ∧ kloop G l ⟨List.replicate m 0, [], 0⟩ = kloop G (l.drop k) st ∧ st.xs.length = m ∧ n ≤ k ∧ 0 ≤ st.many ∧ st.many ≤ k ∧ (∀ y ∈ st.L, 0 ≤ y ∧ y < k) ∧ (∀ y ∈ st.xs, 0 ≤ y ∧ y ≤ k) ∧ KIn w0 B n v st.xs st.L wr
theorem kloop_drop {G : List Int → Int} {l : List S55} {k : Nat} (hk : k < l.length) (st : Kst) : kloop G (l.drop k) st = kloop G (l.drop (k + 1)) (kstep G st l[k]) := by
  rw [List.drop_eq_getElem_cons hk, kloop]
set_option maxHeartbeats 4000000 in
set_option maxRecDepth 1000000 in
theorem kept_any {g : Nat} {G : List Int → Int} (hG : Getter g G) (a0 : ByteArray) (w : World) (hLd : LaidW w) (hs : a0.size ≤ 1048576) (hm0 : 0 ≤ (toldOf a0).2.1) (hm1 : (toldOf a0).2.1 ≤ 1000000) (hl : (toldOf a0).1.length ≤ 600) (hv : ∀ e ∈ (toldOf a0).1, 1 ≤ e.f1 ∧ e.f1 ≤ (toldOf a0).2.1) :
    Calls Tryz.prog 58 #[.string a0, .func (.func g) #[] #[]] w fun e w' => ∃ v0_ : Value, e = .returned (.tuple #[v0_, .int .i64 (keptOf G a0).2.1, .bool (keptOf G a0).2.2]) ∧ Kd.R (Kd.int .i64) 3 w' w.heap.size (fun _ => True) v0_ (keptOf G a0).1 ∧ Below w.heap.size w w' := by
  have hmm := @run_makeMap Tryz.prog
  have HV := Lib.hid hv
  have HG := Lib.hid hG
  clear hv hG
  go_enter Tryz.func58, Tryz.ntmps58
  go_wp2_with fail
  refine (told_any a0 _ hLd hs).mono ?_
  rintro e w1 ⟨v1, rfl, hr1, hb1⟩
  have HK := Lib.hid (show keptOf G a0 = if (toldOf a0).2.2 = true then ((kloop G (toldOf a0).1 ⟨List.replicate (toldOf a0).2.1.toNat 0, [], 0⟩).xs, (kloop G (toldOf a0).1 ⟨List.replicate (toldOf a0).2.1.toNat 0, [], 0⟩).many, true) else ([], -1, false) from rfl)
  generalize (toldOf a0).2.2 = ok at *
  generalize (toldOf a0).2.1 = made at *
  generalize (toldOf a0).1 = l at *
  cases ok with
  | false =>
    go_wp2_with fail
    go_ret3
    exact ⟨_, by rw [HK.out]; rfl, by rw [HK.out]; exact Kd.R_nil _ _ _ _ _, hb1⟩
  | true =>
    obtain ⟨A1, c1, rfl⟩ := Kd.R_slice hr1
    have HC := Lib.hid (Kd.R_reads' hr1).2.2
    have HB1 := Lib.hid hb1
    clear hr1 hb1
    go_wp2_with (first | ((with_reducible refine gate_dst (N := 25) rfl ?_); refine Kd.R_make (Kd.int .i64) (w0 := w1) w1.heap.size 3 rfl (N := 25) rfl 33 _ _ rfl made rfl rfl Tryz.underlying33 (.int .i64 0) 8 info3 rfl (by decide) (by omega) 0 (ok := fun _ => True) (okp := fun _ => True) rfl (fun _ hk => hk) trivial hm0 (by omega) (Below.refl _ _) (Nat.le_refl _) ?_; intro v2 w2 ho2 hb2 hg2 hn2; clear hg2 hn2; have HO := Lib.hid ho2; have HB2 := Lib.hid hb2; clear ho2 hb2) | fail)
    have HI := Lib.hid (show KIn w1 w2.heap.size 0 v2 (List.replicate made.toNat 0) [] (w2.alloc (.map #[] 0)) from
      ⟨HB2.out.alloc HB2.out.size _, KeyMap.start w2, HB2.out.size, Kd.Rb HO.out (below_a _)⟩)
    clear HO HB2
    go_loopw [12, 29] (fun v12 v29 wr => KRel G w1 w2.heap.size l made.toNat v2 v12 v29 wr) (fun _ v29 _ => l.length - (intOf v29).toNat)
    case atStart =>
      exact ⟨0, ⟨List.replicate made.toNat 0, [], 0⟩, 0, Nat.zero_le _, rfl, rfl, rfl, by simp, Nat.le_refl _, Int.le_refl _, Int.le_refl _, (fun y hy => by cases hy), (fun y hy => by have := List.eq_of_mem_replicate hy; subst this; exact ⟨Int.le_refl _, Int.le_refl _⟩), HI.out⟩
    case round =>
      clear HI
      obtain ⟨k, st, n, hk, rfl, rfl, hT, hxl, hnk, hmy0, hmy1, hL, hX, hI⟩ := hrel
      have HT := Lib.hid hT
      have HI := Lib.hid hI
      have HL := Lib.hid hL
      have HX := Lib.hid hX
      clear hT hI hL hX
      by_cases hlt : k < l.length
      · have he := HV.out _ (List.getElem_mem hlt)
        obtain ⟨ad, hA, hx0, hx1⟩ := at_T55 (Kd.C_below HC.out HI.out.below) (k : Int) (by omega) (by omega)
        have HD := Lib.hid (HT.out.trans (kloop_drop hlt st))
        rw [show rd_T55 l (k : Int) = l[k] by unfold rd_T55; simp [hlt]] at hx0 hx1
        simp only [Int.toNat_natCast] at hx0 hx1
        generalize l[k] = e at *
        clear HT
        subst hA
        obtain ⟨gg, cap, hv2, hbg, hgl, cells, hcells⟩ := Kd.R_form HI.out.row (by omega)
        subst hv2
        have HBG := Lib.hid hbg
        have hp : 0 ≤ e.f1 - 1 := by omega
        have hq : e.f1 - 1 < (st.xs.length : Int) := by omega
        have HXL := Lib.hid hxl
        clear hgl hcells hbg hxl
        go_upto_region 8 with fail
        have HI4 := Lib.hid (show KBox w1 w2.heap.size n (.slice (some ⟨gg, 0, none⟩) st.xs.length cap) st.xs st.L wr.heap.size e (wr.alloc (.cells #[.string e.f0, .int .i64 e.f1] 55)) from ⟨HI.out.on (below_a _), heap_alloc_new wr _⟩)
        obtain ⟨W4, hW4⟩ : ∃ W4, W4 = wr.alloc (.cells #[.string e.f0, .int .i64 e.f1] 55) := ⟨_, rfl⟩
        rw [← hW4] at HI4 ⊢
        obtain ⟨bk, hbk⟩ : ∃ bk, bk = wr.heap.size := ⟨_, rfl⟩
        rw [← hbk] at HI4 ⊢
        clear hW4 hx0 hx1 HI hbk
        have hc0 := HI4.out.c0
        have hc1 := HI4.out.c1
        have hto : (e.f1 - 1).toNat = e.f1.toNat - 1 := by omega
        by_cases s43 : e.f0.toList = [43]
        · have b43 : (e.f0.toList == [43]) = true := beq_iff_eq.2 s43
          have HS := Lib.hid (show kstep G st e = ⟨st.xs.set (e.f1 - 1).toNat (G st.L), st.L ++ [G st.L], mx st.many (G st.L + 1)⟩ by unfold kstep; rw [if_pos s43])
          clear s43
          obtain ⟨fn, hf1, hf2, hf3⟩ := HG.out.fn
          have hcb := HG.out.bound st.L k HL.out
          obtain ⟨c, hc⟩ : ∃ c, c = G st.L := ⟨_, rfl⟩
          rw [← hc] at hcb HS
          have HCE := Lib.hid hc
          clear hc
          have hcw := wf_of (x := c) (by omega) (by omega)
          go_wp2_with (first | ((with_reducible refine gate_dst (N := 39) rfl ?_); refine goesV_ (some 39) rfl rfl hf1 hf2 hf3 #[.map (some w2.heap.size)] rfl rfl (by (try simp only [List.map_toArray, List.map_cons, List.map_nil]); first | done | rfl) ?_; refine (HG.out.call W4 w2.heap.size n st.L HI4.out.map (fun y hy => ⟨(HL.out y hy).1, by have := (HL.out y hy).2; omega⟩)).mono ?_; rintro e5 W5 ⟨rfl, hb5⟩; refine ⟨_, rfl, ?_⟩; have HI5 := Lib.hid (HI4.out.on hb5); have h50 := HI5.out.c0; have h51 := HI5.out.c1; obtain ⟨hy0, hf0⟩ := Kd.R_celln 0 HI5.out.row (e.f1 - 1) hp hq; rw [hto] at hy0 hf0; rw [← HCE.out]; clear hb5) | ((with_reducible refine gate_store (t := 3) (p := 45) rfl ?_); refine store_event (t := 3) (p := 45) (v := ?vo) (w1 := (W5.setCell ⟨gg, e.f1.toNat - 1, none⟩ (.int .i64 c))) ?hg ?ho ?hn ?hr ?_; (case ho => rfl); (case hg => rfl); (case hn => rfl); (case hr => first | (go_simp; done) | (go_simp; rfl)); intro W6 hw6; have HI6 := Lib.hid (show KBox w1 w2.heap.size n (.slice (some ⟨gg, 0, none⟩) st.xs.length cap) (st.xs.set (e.f1 - 1).toNat c) st.L bk e W6 from by rw [hw6, ← hto]; exact HI5.out.put (e.f1 - 1) c HBG.out); have h60 := HI6.out.c0; have h61 := HI6.out.c1; clear hw6) | (at_mapUpdate; refine wpList_kborn rfl _ _ _ rfl rfl HI6.out.map (by omega) c rfl rfl hcw ?_; intro W7 hm7 hg7; have HI7 := Lib.hid (HI6.out.mapped hm7 hg7); clear hm7 hg7) | fail)
          go_roundw
          case rel =>
            refine ⟨k + 1, kstep G st e, n + 1, hlt, by go_num, by rw [HS.out]; go_num, HD.out, by rw [HS.out]; simpa using HXL.out, by omega, ?_, ?_, ?_, ?_, by rw [HS.out]; exact HI7.out.toKIn⟩
            · rw [HS.out]; dsimp only; unfold mx; split <;> omega
            · rw [HS.out]; dsimp only; unfold mx; split <;> omega
            · rw [HS.out]
              intro y hy
              rcases List.mem_append.1 hy with hy | hy
              · have := HL.out y hy; omega
              · have := List.mem_singleton.1 hy; omega
            · rw [HS.out]
              intro y hy
              rcases List.mem_or_eq_of_mem_set hy with hy | hy
              · have := HX.out y hy; omega
              · omega
          case measure => simp [intOf]; omega
        · have b43 : (e.f0.toList == [43]) = false := beq_eq_false_iff_ne.2 s43
          by_cases s45 : e.f0.toList = [45]
          · have b45 : (e.f0.toList == [45]) = true := beq_iff_eq.2 s45
            have HS := Lib.hid (show kstep G st e = ⟨st.xs, st.L.filter (fun y => y != rd st.xs (e.f1 - 1)), st.many⟩ by unfold kstep; rw [if_neg s43, if_pos s45])
            clear s43 s45
            obtain ⟨hy0, hf0⟩ := Kd.R_celln 0 HI4.out.row (e.f1 - 1) hp hq
            have hxr := HX.out (rd st.xs (e.f1 - 1)) (rd_mem st.xs hp hq)
            have hrw := wf_of (x := rd st.xs (e.f1 - 1)) (by omega) (by omega)
            replace hy0 : W4.cell? ⟨gg, (e.f1 - 1).toNat, none⟩ = some (.int .i64 (rd st.xs (e.f1 - 1))) := hy0
            rw [hto] at hy0 hf0
            go_wp2_with (first | (at_delete; refine wpList_kdead rfl _ _ rfl rfl HI4.out.map (rd st.xs (e.f1 - 1)) rfl hrw ?_; intro W5 hm5 hg5; have HI5 := Lib.hid (HI4.out.mapped hm5 hg5); clear hm5 hg5) | fail)
            go_roundw
            case rel =>
              refine ⟨k + 1, kstep G st e, n, hlt, by go_num, by rw [HS.out]; try rfl, HD.out, by rw [HS.out]; exact HXL.out, by omega, by rw [HS.out]; exact hmy0, by rw [HS.out]; dsimp only; omega, ?_, ?_, by rw [HS.out]; exact HI5.out.toKIn⟩
              · rw [HS.out]
                intro y hy
                have := HL.out y (List.mem_filter.1 hy).1
                omega
              · rw [HS.out]
                intro y hy
                have := HX.out y hy
                omega
            case measure => simp [intOf]; omega
          · have b45 : (e.f0.toList == [45]) = false := beq_eq_false_iff_ne.2 s45
            have HS := Lib.hid (show kstep G st e = st by unfold kstep; rw [if_neg s43, if_neg s45])
            clear s43 s45
            go_wp2_with fail
            go_roundw
            case rel =>
              refine ⟨k + 1, kstep G st e, n, hlt, by go_num, by rw [HS.out]; try rfl, HD.out, by rw [HS.out]; exact HXL.out, by omega, by rw [HS.out]; exact hmy0, by rw [HS.out]; omega, ?_, ?_, by rw [HS.out]; exact HI4.out.toKIn⟩
              · rw [HS.out]
                intro y hy
                have := HL.out y hy
                omega
              · rw [HS.out]
                intro y hy
                have := HX.out y hy
                omega
            case measure => simp [intOf]; omega
      · have hkn : k = l.length := by omega
        subst hkn
        have HE := Lib.hid (show kloop G l ⟨List.replicate made.toNat 0, [], 0⟩ = st by rw [HT.out, List.drop_length, kloop])
        clear HT
        go_wp2_with fail
        go_ret3
        refine ⟨v2, ?_, ?_, ?_⟩
        · rw [HK.out, HE.out]; rfl
        · rw [HK.out, HE.out]
          exact Kd.R_lower HI.out.row HB1.out.size
        · exact HB1.out.trans (HI.out.below.mono HB1.out.size)
def Gf (L : List Int) : Int := (ffree L 0 : Nat)
theorem ffree_le {L : List Int} {k : Nat} (hk : ¬ (k : Int) ∈ L) : ∀ (d i : Nat), i + d = k → ffree L i ≤ k
  | 0, i, h => by
    obtain rfl : i = k := by omega
    rw [ffree_out hk]
    exact Nat.le_refl _
  | d + 1, i, h => by
    by_cases hi : (i : Int) ∈ L
    · rw [ffree_in hi]
      exact ffree_le hk d (i + 1) (by omega)
    · rw [ffree_out hi]
      omega
theorem getter_first : Getter 59 Gf where
  fn := ⟨_, Tryz.func59, by kernel_rfl, by kernel_rfl⟩
  call := fun w B n L h hb => (first_any w B n L h (fun y hy => (hb y hy).2)).mono fun e w' ⟨he, hw⟩ => by
    subst hw
    exact ⟨he, Below.refl _ _⟩
  bound := fun L k h => ⟨by unfold Gf; omega, by
    have := ffree_le (L := L) (k := k) (fun hk => by have := h _ hk; omega) k 0 (by omega)
    unfold Gf
    omega⟩
theorem getter_above : Getter 61 cntOf where
  fn := ⟨_, Tryz.func61, by kernel_rfl, by kernel_rfl⟩
  call := above_any
  bound := fun L k h => by
    have a := cntGo_le L 0
    have b := cntGo_is L 0
    unfold cntOf
    refine ⟨a.1, ?_⟩
    rcases b with b | ⟨x, hx, b⟩
    · omega
    · have := h x hx; omega
def impl_kept.f (a0 : ByteArray) : Option (List Int × Int × Bool) :=
  if a0.size ≤ 1048576 ∧ 0 ≤ (toldOf a0).2.1 ∧ (toldOf a0).2.1 ≤ 1000000 ∧ (toldOf a0).1.length ≤ 600 ∧ ∀ e ∈ (toldOf a0).1, 1 ≤ e.f1 ∧ e.f1 ≤ (toldOf a0).2.1 then some (keptOf Gf a0) else none
def impl_above.f (a0 : ByteArray) : Option (List Int × Int × Bool) :=
  if a0.size ≤ 1048576 ∧ 0 ≤ (toldOf a0).2.1 ∧ (toldOf a0).2.1 ≤ 1000000 ∧ (toldOf a0).1.length ≤ 600 ∧ ∀ e ∈ (toldOf a0).1, 1 ≤ e.f1 ∧ e.f1 ≤ (toldOf a0).2.1 then some (keptOf cntOf a0) else none
theorem impl_kept.calls (a0 : ByteArray) (r1 : List Int) (r2 : Int) (r3 : Bool) (w : World) (hLd : LaidW w) (h : impl_kept.f a0 = some (r1, r2, r3)) :
    Calls Tryz.prog 58 #[.string a0, .func (.func 59) #[] #[]] w fun e w' => ∃ v0_ : Value, e = .returned (.tuple #[v0_, .int .i64 r2, .bool r3]) ∧ Kd.R (Kd.int .i64) 3 w' w.heap.size (fun _ => True) v0_ r1 ∧ Below w.heap.size w w' := by
  unfold impl_kept.f at h
  split at h
  · rename_i hh
    injection h with h
    have := kept_any getter_first a0 w hLd hh.1 hh.2.1 hh.2.2.1 hh.2.2.2.1 hh.2.2.2.2
    rw [h] at this
    exact this
  · cases h
theorem impl_above.calls (a0 : ByteArray) (r1 : List Int) (r2 : Int) (r3 : Bool) (w : World) (hLd : LaidW w) (h : impl_above.f a0 = some (r1, r2, r3)) :
    Calls Tryz.prog 58 #[.string a0, .func (.func 61) #[] #[]] w fun e w' => ∃ v0_ : Value, e = .returned (.tuple #[v0_, .int .i64 r2, .bool r3]) ∧ Kd.R (Kd.int .i64) 3 w' w.heap.size (fun _ => True) v0_ r1 ∧ Below w.heap.size w w' := by
  unfold impl_above.f at h
  split at h
  · rename_i hh
    injection h with h
    have := kept_any getter_above a0 w hLd hh.1 hh.2.1 hh.2.2.1 hh.2.2.2.1 hh.2.2.2.2
    rw [h] at this
    exact this
  · cases h
end Go.Proofs.YtndjbnkmhpbnpaaGreatDoor.Pr
namespace Go.Proofs.YtndjbnkmhpbnpaaGreatDoor.Pr
open Go.RowKit Go.Maps Go.Proofs.YtndjbnkmhpbnpaaGreatDoorW.PrintWords Go.Proofs.YtndjbnkmhpbnpaaGreatDoorW.PrintLast Go.Proofs.YtndjbnkmhpbnpaaGreatDoorW.PrintMore
set_option linter.unusedVariables false
def fitI (xs : List Int) : List S55 → List Int → Bool
 | [], _ => true
 | e :: r, L =>
  if rd xs (e.f1 - 1) < 0 then false
  else if e.f0.toList = [43] then (if rd xs (e.f1 - 1) ∈ L then false else fitI xs r (L ++ [rd xs (e.f1 - 1)]))
  else if e.f0.toList = [45] then fitI xs r (L.filter (fun y => y != rd xs (e.f1 - 1)))
  else fitI xs r L
def fitOf (a0 : ByteArray) (xs : List Int) : Bool :=
 if (toldOf a0).2.2 = true ∧ (xs.length : Int) = (toldOf a0).2.1 then fitI xs (toldOf a0).1 [] else false
structure FIn (w0 : World) (B n : Nat) (L : List Int) (wr : World) : Prop where
 below : Below w0.heap.size w0 wr
 map : KeyMap wr B n L
 baseB : w0.heap.size ≤ B
structure FBox (w0 : World) (B n : Nat) (L : List Int) (b : Nat) (e : S55) (wr : World) : Prop extends FIn w0 B n L wr where
 box : wr.heap[b]? = some (.cells #[.string e.f0, .int .i64 e.f1] 55 (0, 0))
section
variable {w0 wr w' : World} {B n b : Nat} {L : List Int} {e : S55}
theorem FIn.on (h : FIn w0 B n L wr) (hb : Below wr.heap.size wr w') : FIn w0 B n L w' := ⟨h.below.trans (hb.mono h.below.size), h.map.below hb, h.baseB⟩
theorem FIn.mapped (h : FIn w0 B n L wr) {L' : List Int} {n' : Nat} (hm : KeyMap w' B n' L') (hg : wr.grownBy w' (some B)) : FIn w0 B n' L' w' :=
 ⟨h.below.trans ⟨hg.os, hg.tape, hg.output, hg.size, fun k hk => hg.block k (Nat.lt_of_lt_of_le hk h.below.size) (fun e => by injection e with e; have := h.baseB; omega)⟩, hm, h.baseB⟩
end
def FRel (w0 : World) (B : Nat) (l : List S55) (xs : List Int) (v29 : Value) (wr : World) : Prop :=
 ∃ (k n : Nat) (L : List Int), k ≤ l.length ∧ v29 = .int .i64 k ∧ fitI xs l [] = fitI xs (l.drop k) L ∧ n ≤ k ∧ FIn w0 B n L wr
theorem fitI_drop {xs : List Int} {l : List S55} {k : Nat} (hk : k < l.length) (L : List Int) : fitI xs (l.drop k) L = fitI xs (l[k] :: l.drop (k + 1)) L := by
 rw [List.drop_eq_getElem_cons hk]
set_option maxHeartbeats 4000000 in
set_option maxRecDepth 1000000 in
theorem fit_any (a0 : ByteArray) (A1 : Option Addr) (c1 : Nat) (l1 : List Int) (w : World) (hLd : LaidW w) (hs : a0.size ≤ 1048576) (hr1 : Kd.C (Kd.int .i64) w A1 l1.length l1) (hx : ∀ x ∈ l1, -9223372036854775808 ≤ x ∧ x ≤ 9223372036854775807) (hm1 : (toldOf a0).2.1 ≤ 1000000) (hl : (toldOf a0).1.length ≤ 600) (hv : ∀ e ∈ (toldOf a0).1, 1 ≤ e.f1 ∧ e.f1 ≤ (toldOf a0).2.1) :
  Calls Tryz.prog 26 #[.string a0, .slice A1 l1.length c1] w fun e w' => e = .returned (.bool (fitOf a0 l1)) ∧ Below w.heap.size w w' := by
 have hmm := @run_makeMap Tryz.prog
 have HV := Lib.hid hv
 have HR := Lib.hid hr1
 have HX := Lib.hid hx
 clear hv hr1 hx
 go_enter Tryz.func26, Tryz.ntmps26
 go_wp2_with fail
 refine (told_any a0 _ hLd hs).mono ?_
 rintro e w1 ⟨v1, rfl, hrr1, hb1⟩
 have HK := Lib.hid (show fitOf a0 l1 = if (toldOf a0).2.2 = true ∧ (l1.length : Int) = (toldOf a0).2.1 then fitI l1 (toldOf a0).1 [] else false from rfl)
 generalize (toldOf a0).2.2 = ok at *
 generalize (toldOf a0).2.1 = made at *
 generalize (toldOf a0).1 = l at *
 cases ok with
 | false =>
  go_wp2_with fail
  go_ret
  exact ⟨by rw [HK.out]; rfl, hb1⟩
 | true =>
  obtain ⟨Al, cl, rfl⟩ := Kd.R_slice hrr1
  have HC := Lib.hid (Kd.R_reads' hrr1).2.2
  have HB1 := Lib.hid hb1
  clear hrr1 hb1
  by_cases hlen : (l1.length : Int) = made
  ·have hb : ((l1.length : Int) != made) = false := bne_eq_false_iff_eq.2 hlen
   have HL := Lib.hid hlen
   have hlm : made = (l1.length : Int) := hlen.symm
   subst hlm
   clear hlen
   go_wp2_with fail
   have HI := Lib.hid (show FIn w1 w1.heap.size 0 [] (w1.alloc (.map #[] 0)) from ⟨below_a _, KeyMap.start w1, Nat.le_refl _⟩)
   go_loopw [29] (fun v29 wr => FRel w1 w1.heap.size l l1 v29 wr) (fun v29 _ => l.length - (intOf v29).toNat)
   case atStart => exact ⟨0, 0, [], Nat.zero_le _, rfl, rfl, Nat.le_refl _, HI.out⟩
   case round =>
    clear HI
    obtain ⟨k, n, L, hk, rfl, hT, hnk, hI⟩ := hrel
    have HT := Lib.hid hT
    have HI := Lib.hid hI
    clear hT hI
    by_cases hlt : k < l.length
    ·have he := HV.out _ (List.getElem_mem hlt)
     obtain ⟨ad, hA, hx0, hx1⟩ := at_T55 (Kd.C_below HC.out HI.out.below) (k : Int) (by omega) (by omega)
     have HD := Lib.hid (HT.out.trans (fitI_drop hlt L))
     rw [show rd_T55 l (k : Int) = l[k] by unfold rd_T55; simp [hlt]] at hx0 hx1
     simp only [Int.toNat_natCast] at hx0 hx1
     generalize l[k] = e at *
     clear HT
     subst hA
     go_upto_region 8 with fail
     have HI4 := Lib.hid (show FBox w1 w1.heap.size n L wr.heap.size e (wr.alloc (.cells #[.string e.f0, .int .i64 e.f1] 55)) from ⟨HI.out.on (below_a _), heap_alloc_new wr _⟩)
     obtain ⟨W4, hW4⟩ : ∃ W4, W4 = wr.alloc (.cells #[.string e.f0, .int .i64 e.f1] 55) := ⟨_, rfl⟩
     rw [← hW4] at HI4 ⊢
     obtain ⟨bk, hbk⟩ : ∃ bk, bk = wr.heap.size := ⟨_, rfl⟩
     rw [← hbk] at HI4 ⊢
     clear hW4 hx0 hx1 HI hbk
     have hc0 : W4.cell? ⟨bk, 0, none⟩ = some (.string e.f0) := (blk_cell HI4.out.box 0).trans rfl
     have hc1 : W4.cell? ⟨bk, 1, none⟩ = some (.int .i64 e.f1) := (blk_cell HI4.out.box 1).trans rfl
     have hp : 0 ≤ e.f1 - 1 := by omega
     have hq : e.f1 - 1 < (l1.length : Int) := by omega
     have hto : (e.f1 - 1).toNat = e.f1.toNat - 1 := by omega
     obtain ⟨adx, hAx, hy0⟩ := Kd.at_int (Kd.C_below HR.out (HB1.out.trans (HI4.out.below.mono HB1.out.size))) (e.f1 - 1) hp hq
     rw [hto] at hy0
     subst hAx
     have hcr := HX.out (rd l1 (e.f1 - 1)) (rd_mem l1 hp hq)
     have HF := Lib.hid (show fitI l1 (e :: l.drop (k + 1)) L = if rd l1 (e.f1 - 1) < 0 then false
      else if e.f0.toList = [43] then (if rd l1 (e.f1 - 1) ∈ L then false else fitI l1 (l.drop (k + 1)) (L ++ [rd l1 (e.f1 - 1)]))
      else if e.f0.toList = [45] then fitI l1 (l.drop (k + 1)) (L.filter (fun y => y != rd l1 (e.f1 - 1)))
      else fitI l1 (l.drop (k + 1)) L from rfl)
     generalize rd l1 (e.f1 - 1) = c at *
     have hcw := wf_of hcr.1 hcr.2
     have HOUT := Lib.hid (HB1.out.trans (HI4.out.below.mono HB1.out.size))
     by_cases hneg : c < 0
     ·have bneg : decide (c < 0) = true := decide_eq_true hneg
      have HS := Lib.hid (HD.out.trans (HF.out.trans (if_pos hneg)))
      clear hneg
      go_wp2_with fail
      go_ret
      exact ⟨by rw [HK.out, if_pos (by simp), HS.out]; rfl, HOUT.out⟩
     ·have bneg : decide (c < 0) = false := decide_eq_false hneg
      have HF2 := Lib.hid (HF.out.trans (if_neg hneg))
      clear hneg HF
      by_cases s43 : e.f0.toList = [43]
      ·have b43 : (e.f0.toList == [43]) = true := beq_iff_eq.2 s43
       have HF3 := Lib.hid (HF2.out.trans (if_pos s43))
       clear s43 HF2
       have hlk := HI4.out.map.alive.look hcw
       by_cases hin : c ∈ L
       ·have hlk1 : (Instr.lookup 71 (.map (some w1.heap.size)) (.int .i64 c) false).run Tryz.prog W4 = .ok (.bool true) W4 := by rw [hlk, decide_eq_true hin]
        have HS := Lib.hid (HD.out.trans (HF3.out.trans (if_pos hin)))
        clear hlk hin
        go_wp2_with fail
        go_ret
        exact ⟨by rw [HK.out, if_pos (by simp), HS.out]; rfl, HOUT.out⟩
       ·have hlk1 : (Instr.lookup 71 (.map (some w1.heap.size)) (.int .i64 c) false).run Tryz.prog W4 = .ok (.bool false) W4 := by rw [hlk, decide_eq_false hin]
        have HS := Lib.hid (HD.out.trans (HF3.out.trans (if_neg hin)))
        clear hlk hin
        go_wp2_with (first | (at_mapUpdate; refine wpList_kborn rfl _ _ _ rfl rfl HI4.out.map (by omega) c rfl rfl hcw ?_; intro W7 hm7 hg7; have HI7 := Lib.hid (HI4.out.toFIn.mapped hm7 hg7); clear hm7 hg7) | fail)
        go_roundw
        case rel => exact ⟨k + 1, n + 1, _, hlt, by go_num, HS.out, by omega, HI7.out⟩
        case measure => simp [intOf]; omega
      ·have b43 : (e.f0.toList == [43]) = false := beq_eq_false_iff_ne.2 s43
       have HF3 := Lib.hid (HF2.out.trans (if_neg s43))
       clear HF2 s43
       by_cases s45 : e.f0.toList = [45]
       ·have b45 : (e.f0.toList == [45]) = true := beq_iff_eq.2 s45
        have HS := Lib.hid (HD.out.trans (HF3.out.trans (if_pos s45)))
        clear s45
        go_wp2_with (first | (at_delete; refine wpList_kdead rfl _ _ rfl rfl HI4.out.map c rfl hcw ?_; intro W5 hm5 hg5; have HI5 := Lib.hid (HI4.out.toFIn.mapped hm5 hg5); clear hm5 hg5) | fail)
        go_roundw
        case rel => exact ⟨k + 1, n, _, hlt, by go_num, HS.out, by omega, HI5.out⟩
        case measure => simp [intOf]; omega
       ·have b45 : (e.f0.toList == [45]) = false := beq_eq_false_iff_ne.2 s45
        have HS := Lib.hid (HD.out.trans (HF3.out.trans (if_neg s45)))
        clear s45
        go_wp2_with fail
        go_roundw
        case rel => exact ⟨k + 1, n, _, hlt, by go_num, HS.out, by omega, HI4.out.toFIn⟩
        case measure => simp [intOf]; omega
    ·have hkn : k = l.length := by omega
     subst hkn
     have HE := Lib.hid (show fitI l1 l [] = true by rw [HT.out, List.drop_length, fitI])
     clear HT
     go_wp2_with fail
     go_ret
     exact ⟨by rw [HK.out, if_pos (by simp), HE.out]; rfl, HB1.out.trans (HI.out.below.mono HB1.out.size)⟩
  ·have hb : ((l1.length : Int) != made) = true := bne_iff_ne.2 hlen
   have HL := Lib.hid hlen
   clear hlen
   go_wp2_with fail
   go_ret
   exact ⟨by rw [HK.out, if_neg (fun h => HL.out h.2)]; rfl, HB1.out⟩
def impl_CellsFit.f (a0 : ByteArray) (l1 : List Int) : Option Bool :=
 if a0.size ≤ 1048576 ∧ (∀ x ∈ l1, -9223372036854775808 ≤ x ∧ x ≤ 9223372036854775807) ∧ (toldOf a0).2.1 ≤ 1000000 ∧ (toldOf a0).1.length ≤ 600 ∧ ∀ e ∈ (toldOf a0).1, 1 ≤ e.f1 ∧ e.f1 ≤ (toldOf a0).2.1 then some (fitOf a0 l1) else none
theorem impl_CellsFit.calls (a0 : ByteArray) (A1 : Option Addr) (c1 : Nat) (l1 : List Int) (r : Bool) (w : World) (hr1 : Kd.C (Kd.int .i64) w A1 l1.length l1) (hc1 : l1.length ≤ c1) (hLd : LaidW w) (h : impl_CellsFit.f a0 l1 = some r) :
  Calls Tryz.prog 26 #[.string a0, .slice A1 l1.length c1] w fun e w' => e = .returned (.bool r) ∧ Below w.heap.size w w' := by
 unfold impl_CellsFit.f at h
 split at h
 ·rename_i hh
  injection h with h
  subst h
  exact fit_any a0 A1 c1 l1 w hLd hh.1 hr1 hh.2.1 hh.2.2.1 hh.2.2.2.1 hh.2.2.2.2
 ·cases h
end Go.Proofs.YtndjbnkmhpbnpaaGreatDoor.Pr
namespace Go.Proofs.YtndjbnkmhpbnpaaGreatDoor.Pr
open Go.RowKit Go.Proofs.YtndjbnkmhpbnpaaGreatDoorW.PrintWords Go.Proofs.YtndjbnkmhpbnpaaGreatDoorW.PrintLast Go.Proofs.YtndjbnkmhpbnpaaGreatDoorW.PrintMore
def tkstep (xs : List Int) (L : List Int) (e : S55) : List Int :=
 if e.f0.toList = [43] then L ++ [rd xs (e.f1 - 1)] else if e.f0.toList = [45] then L.filter (fun y => y != rd xs (e.f1 - 1)) else L
def tkgo (xs : List Int) : List S55 → List Int → List Int
 | [], L => L
 | e :: r, L => tkgo xs r (tkstep xs L e)
def chk (xs : List Int) (e : S55) (L : List Int) : Bool := if rd xs (e.f1 - 1) < 0 then false else if e.f0.toList = [43] ∧ rd xs (e.f1 - 1) ∈ L then false else true
theorem fitI_cons (xs : List Int) (e : S55) (r : List S55) (L : List Int) : fitI xs (e :: r) L = (chk xs e L && fitI xs r (tkstep xs L e)) := by
 rw [fitI]
 unfold chk tkstep
 by_cases h0 : rd xs (e.f1 - 1) < 0
 ·rw [if_pos h0, if_pos h0]; rfl
 ·rw [if_neg h0, if_neg h0]
  by_cases h1 : e.f0.toList = [43]
  ·rw [if_pos h1, if_pos h1]
   by_cases h2 : rd xs (e.f1 - 1) ∈ L
   ·rw [if_pos h2, if_pos ⟨h1, h2⟩]; rfl
   ·rw [if_neg h2, if_neg (fun h => h2 h.2)]; rfl
  ·have h2 : ¬ (e.f0.toList = [43] ∧ rd xs (e.f1 - 1) ∈ L) := fun h => h1 h.1
   simp only [if_neg h1, if_neg h2, Bool.true_and]
   split <;> rfl
theorem fitI_snoc (xs : List Int) (e : S55) : ∀ (o : List S55) (L : List Int), fitI xs (o ++ [e]) L = (fitI xs o L && chk xs e (tkgo xs o L))
 | [], L => by
  rw [List.nil_append, fitI_cons, fitI, fitI, tkgo]
  simp
 | a :: r, L => by
  rw [List.cons_append, fitI_cons, fitI_cons, fitI_snoc xs e r, tkgo, Bool.and_assoc]
theorem tkgo_snoc (xs : List Int) (e : S55) : ∀ (o : List S55) (L : List Int), tkgo xs (o ++ [e]) L = tkstep xs (tkgo xs o L) e
 | [], L => rfl
 | a :: r, L => by rw [List.cons_append, tkgo, tkgo, tkgo_snoc xs e r]
def cellAt (xs : List Int) (n : Int) : Int := rd xs (n - 1)
theorem filter_cell {xs : List Int} {n : Int} : ∀ {l : List Int}, (l.map (cellAt xs)).Nodup → n ∈ l → (l.map (cellAt xs)).filter (fun y => y != cellAt xs n) = (l.filter (fun y => y != n)).map (cellAt xs)
 | [], _, h => by cases h
 | a :: r, hd, h => by
  rw [List.map_cons, List.nodup_cons] at hd
  rcases List.mem_cons.1 h with rfl | hn
  ·have h1 : ∀ x ∈ r, cellAt xs x ≠ cellAt xs n := fun x hx e => hd.1 (by rw [← e]; exact List.mem_map_of_mem hx)
   have h2 : ∀ x ∈ r, x ≠ n := fun x hx e => h1 x hx (by rw [e])
   rw [List.map_cons, List.filter_cons_of_neg (by simp), List.filter_cons_of_neg (by simp)]
   rw [List.filter_eq_self.2 (fun y hy => by obtain ⟨x, hx, rfl⟩ := List.mem_map.1 hy; simpa using h1 x hx), List.filter_eq_self.2 (fun y hy => by simpa using h2 y hy)]
  ·have h1 : cellAt xs a ≠ cellAt xs n := fun e => hd.1 (by rw [e]; exact List.mem_map_of_mem hn)
   have h2 : a ≠ n := fun e => h1 (by rw [e])
   rw [List.map_cons, List.filter_cons_of_pos (by simpa using h1), List.filter_cons_of_pos (by simpa using h2), List.map_cons, filter_cell hd.2 hn]
theorem nodup_filter_map {xs : List Int} {l : List Int} (p : Int → Bool) (h : (l.map (cellAt xs)).Nodup) : ((l.filter p).map (cellAt xs)).Nodup :=
 List.Nodup.sublist (List.filter_sublist.map _) h
def cstep (G : List Int → Int) (st : List Int × List Int) (e : S55) : List Int × List Int :=
 if e.f0.toList = [43] then (st.1 ++ [G st.2], st.2 ++ [G st.2])
 else if e.f0.toList = [45] then (st.1, st.2.filter (fun y => y != rd st.1 (e.f1 - 1)))
 else st
def cgo (G : List Int → Int) : List S55 → List Int × List Int → List Int × List Int
 | [], st => st
 | e :: r, st => cgo G r (cstep G st e)
def cst (G : List Int → Int) (o : List S55) : List Int × List Int := cgo G o ([], [])
theorem cgo_snoc (G : List Int → Int) (e : S55) : ∀ (o : List S55) (st : List Int × List Int), cgo G (o ++ [e]) st = cstep G (cgo G o st) e
 | [], st => rfl
 | a :: r, st => by rw [List.cons_append, cgo, cgo, cgo_snoc G e r]
theorem cst_snoc (G : List Int → Int) (o : List S55) (e : S55) : cst G (o ++ [e]) = cstep G (cst G o) e := cgo_snoc G e o _
theorem kloop_snoc (G : List Int → Int) (e : S55) : ∀ (o : List S55) (st : Kst), kloop G (o ++ [e]) st = kstep G (kloop G o st) e
 | [], st => rfl
 | a :: r, st => by rw [List.cons_append, kloop, kloop, kloop_snoc G e r]
theorem cstep_43 {G : List Int → Int} {st : List Int × List Int} {e : S55} (h : e.f0.toList = [43]) : cstep G st e = (st.1 ++ [G st.2], st.2 ++ [G st.2]) := by unfold cstep; rw [if_pos h]
theorem cstep_46 {G : List Int → Int} {st : List Int × List Int} {e : S55} (h : e.f0.toList = [46]) : cstep G st e = st := by unfold cstep; rw [if_neg (by rw [h]; decide), if_neg (by rw [h]; decide)]
theorem cstep_45 {G : List Int → Int} {st : List Int × List Int} {e : S55} (h : e.f0.toList = [45]) : cstep G st e = (st.1, st.2.filter (fun y => y != rd st.1 (e.f1 - 1))) := by unfold cstep; rw [if_neg (by rw [h]; decide), if_pos h]
theorem kstep_43 {G : List Int → Int} {st : Kst} {e : S55} (h : e.f0.toList = [43]) : kstep G st e = ⟨st.xs.set (e.f1 - 1).toNat (G st.L), st.L ++ [G st.L], mx st.many (G st.L + 1)⟩ := by unfold kstep; rw [if_pos h]
theorem kstep_46 {G : List Int → Int} {st : Kst} {e : S55} (h : e.f0.toList = [46]) : kstep G st e = st := by unfold kstep; rw [if_neg (by rw [h]; decide), if_neg (by rw [h]; decide)]
theorem kstep_45 {G : List Int → Int} {st : Kst} {e : S55} (h : e.f0.toList = [45]) : kstep G st e = ⟨st.xs, st.L.filter (fun y => y != rd st.xs (e.f1 - 1)), st.many⟩ := by unfold kstep; rw [if_neg (by rw [h]; decide), if_pos h]
theorem cntGo_snoc (x : Int) : ∀ (L : List Int) (a : Int), cntGo (L ++ [x]) a = mx (cntGo L a) (x + 1)
 | [], a => rfl
 | y :: r, a => by rw [List.cons_append, cntGo, cntGo, cntGo_snoc x r]
theorem rdi_app {xs ys : List Int} {n : Int} (h : n.toNat < xs.length) : rd (xs ++ ys) n = rd xs n := by
 unfold rd
 rw [List.getD_eq_getElem?_getD, List.getD_eq_getElem?_getD, List.getElem?_append_left h]
theorem Good.cells_length {G : List Int → Int} {o : List S55} {m : Nat} {l : List Int} (h : Good o m l) : (cst G o).1.length = m := by
 induction h with
 | nil => rfl
 | make g hs ih => rw [cst_snoc, cstep_43 hs]; simp [ih]
 | use g hs hn ih => rw [cst_snoc, cstep_46 hs]; exact ih
 | kill g hs hn ih => rw [cst_snoc, cstep_45 hs]; exact ih
theorem Good.kloop {G : List Int → Int} {o : List S55} {m : Nat} {l : List Int} (h : Good o m l) : ∀ M, m ≤ M → kloop G o ⟨List.replicate M 0, [], 0⟩ = ⟨(cst G o).1 ++ List.replicate (M - m) 0, (cst G o).2, cntOf (cst G o).1⟩ := by
 induction h with
 | nil => intro M _; rfl
 | @make o m l s g hs ih =>
  intro M hM
  rw [kloop_snoc, ih M (by omega), cst_snoc, kstep_43 hs, cstep_43 hs]
  have hl := g.cells_length (G := G)
  dsimp only
  rw [List.set_append_right _ _ (by omega), hl]
  obtain ⟨d, hd⟩ : ∃ d, M - m = d + 1 := ⟨M - m - 1, by omega⟩
  rw [hd, show M - (m + 1) = d by omega, List.replicate_succ, show ((((m + 1 : Nat) : Int)) - 1).toNat - m = 0 by omega]
  unfold cntOf
  rw [cntGo_snoc]
  simp
 | @use o m l s n g hs hn ih =>
  intro M hM
  rw [kloop_snoc, ih M hM, cst_snoc, kstep_46 hs, cstep_46 hs]
 | @kill o m l s n g hs hn ih =>
  intro M hM
  have hr := g.range _ hn
  have hl := g.cells_length (G := G)
  rw [kloop_snoc, ih M hM, cst_snoc, kstep_45 hs, cstep_45 hs]
  dsimp only
  rw [rdi_app (by omega)]
def Bound (G : List Int → Int) : Prop := ∀ (L : List Int) (k : Nat), (∀ y ∈ L, 0 ≤ y ∧ y < k) → 0 ≤ G L ∧ G L ≤ k
theorem Good.taken {G : List Int → Int} (hG : Bound G) {o : List S55} {m : Nat} {l : List Int} (h : Good o m l) : (∀ y ∈ (cst G o).2, 0 ≤ y ∧ y < m) ∧ (cst G o).2.length ≤ m ∧ ∀ y ∈ (cst G o).1, 0 ≤ y ∧ y < m := by
 induction h with
 | nil => exact ⟨(fun y hy => by cases hy), Nat.le_refl _, (fun y hy => by cases hy)⟩
 | @make o m l s g hs ih =>
  have hb := hG _ m ih.1
  rw [cst_snoc, cstep_43 hs]
  refine ⟨fun y hy => ?_, by simp; omega, fun y hy => ?_⟩
  ·rcases List.mem_append.1 hy with hy | hy
   ·have := ih.1 y hy; omega
   ·have := List.mem_singleton.1 hy; omega
  ·rcases List.mem_append.1 hy with hy | hy
   ·have := ih.2.2 y hy; omega
   ·have := List.mem_singleton.1 hy; omega
 | @use o m l s n g hs hn ih => rw [cst_snoc, cstep_46 hs]; exact ih
 | @kill o m l s n g hs hn ih =>
  rw [cst_snoc, cstep_45 hs]
  exact ⟨fun y hy => ih.1 y (List.mem_filter.1 hy).1, Nat.le_trans (List.length_filter_le _ _) ih.2.1, ih.2.2⟩
theorem free_go (L : List Int) (hl : L.length ≤ 1000000) (hb : ∀ y ∈ L, y ≤ 1000000) : ∀ (n i : Nat), fmeas L i < n → i ≤ 1000001 → Ev (fun k => spec_l8Free.l0 k L (i : Int)) ((ffree L i : Nat) : Int)
 | 0, i, h, _ => by omega
 | n + 1, i, h, hi => by
  refine Ev.step (fun k => spec_l8Free.l0.eq_2 (k := k) ..) (Ev.bind (l7In_ev L i hl) ?_)
  by_cases hin : (i : Int) ∈ L
  ·have h1 := filt_lt L i hin
   have h2 := hb _ hin
   simp only [decide_eq_true hin, if_true, wrap_up (show i ≤ 1000000000 by omega)]
   rw [ffree_in hin]
   exact free_go L hl hb n (i + 1) (by unfold fmeas at h ⊢; have : (((i + 1 : Nat) : Int)) = (i : Int) + 1 := rfl; rw [this]; omega) (by omega)
  ·simp only [decide_eq_false hin, Bool.false_eq_true, if_false]
   rw [ffree_out hin]
   exact Ev.now _
theorem free_ev (L : List Int) (hl : L.length ≤ 1000000) (hb : ∀ y ∈ L, y ≤ 1000000) : Ev (fun k => spec_l8Free.f k L) (Gf L) := free_go L hl hb _ 0 (Nat.lt_succ_self _) (by omega)
theorem count_go (L : List Int) (hl : L.length ≤ 1000000) (hb : ∀ y ∈ L, -1000000 ≤ y ∧ y ≤ 1000000) : ∀ (d i : Nat) (a : Int), i + d = L.length → Ev (fun k => spec_l8Count.l0 k a L (L.length : Int) (i : Int)) (cntGo (L.drop i) a)
 | 0, i, a, hi => by
  refine Ev.step (fun k => spec_l8Count.l0.eq_2 (k := k) ..) ?_
  simp only [if_neg (show ¬ ((i : Int) < (L.length : Int)) by omega)]
  rw [List.drop_of_length_le (by omega), cntGo]
  exact Ev.now _
 | d + 1, i, a, hi => by
  have hlt : i < L.length := by omega
  have hx := hb _ (List.getElem_mem hlt)
  rw [List.drop_eq_getElem_cons hlt, cntGo]
  refine Ev.step (fun k => spec_l8Count.l0.eq_2 (k := k) ..) ?_
  simp only [if_pos (show ((i : Int) < (L.length : Int)) by omega), if_pos (show (0 : Int) ≤ (i : Int) by omega), rd_at hlt, wrap_up (show i ≤ 1000000000 by omega), wrap_small (n := L[i] + 1) (by omega) (by omega)]
  exact count_go L hl hb d (i + 1) _ (by omega)
theorem count_ev (L : List Int) (hl : L.length ≤ 1000000) (hb : ∀ y ∈ L, -1000000 ≤ y ∧ y ≤ 1000000) : Ev (fun k => spec_l8Count.f k L) (cntOf L) := count_go L hl hb L.length 0 0 (Nat.zero_add _)
theorem cells_go {o : List S55} {m : Nat} {l : List Int} (h : Good o m l) (hl : o.length ≤ 1000000) : ∀ (d i : Nat), i + d = o.length →
  Ev (fun k => spec_l8Cells.l0 k (cst Gf (o.take i)).1 (cst Gf (o.take i)).2 (o.map conv) ((o.map conv).length : Int) (i : Int)) (cst Gf o).1
 | 0, i, hi => by
  refine Ev.step (fun k => spec_l8Cells.l0.eq_2 (k := k) ..) ?_
  simp only [if_neg (show ¬ ((i : Int) < ((o.map conv).length : Int)) by simp; omega)]
  rw [List.take_of_length_le (by omega)]
  exact Ev.now _
 | d + 1, i, hi => by
  obtain ⟨e, m', l', h1, h2, h3, h4, h5⟩ := h.step i (by omega)
  have ih := cells_go h hl d (i + 1) (by omega)
  have hm := h3.made
  have hcl := h3.cells_length (G := Gf)
  have ht := h3.taken (G := Gf) getter_first.bound
  simp only [List.length_take] at hm
  rw [h2, cst_snoc] at ih
  refine Ev.step (fun k => spec_l8Cells.l0.eq_2 (k := k) ..) ?_
  simp only [if_pos (show ((i : Int) < ((o.map conv).length : Int)) by simp; omega), if_pos (show (0 : Int) ≤ (i : Int) by omega), rd59_at h1, wrap_up (show i ≤ 1000000000 by omega), conv_f1]
  rcases h5 with ⟨hs, _⟩ | ⟨hs, hn, _⟩ | ⟨hs, hn, _⟩
  ·rw [cstep_43 hs] at ih
   simp only [if_pos (conv_43 hs)]
   refine Ev.bind (free_ev _ (by omega) (fun y hy => by have := ht.1 y hy; omega)) ?_
   simp only [if_pos (show (cst Gf (o.take i)).2.length < 17592186044416 by omega), if_pos (show (cst Gf (o.take i)).1.length < 17592186044416 by omega)]
   exact ih
  ·rw [cstep_46 hs] at ih
   simp only [conv_46 hs, show ¬ ((46 : Int) = 43) by decide, show ¬ ((46 : Int) = 45) by decide, if_false]
   exact ih
  ·have hr := h3.range _ hn
   rw [cstep_45 hs] at ih
   simp only [conv_45 hs, show ¬ ((45 : Int) = 43) by decide, if_false, if_true, wrap_small (n := e.f1 - 1) (by omega) (by omega), if_pos (show 0 ≤ e.f1 - 1 by omega), if_pos (show e.f1 - 1 < ((cst Gf (o.take i)).1.length : Int) by omega)]
   exact Ev.bind (l7Without_ev _ _ (by omega)) ih
theorem stack_go {o : List S55} {m : Nat} {l : List Int} (h : Good o m l) (hl : o.length ≤ 1000000) : ∀ (d i : Nat), i + d = o.length →
  Ev (fun k => spec_l8Stack.l0 k (cst cntOf (o.take i)).1 (cst cntOf (o.take i)).2 (o.map conv) ((o.map conv).length : Int) (i : Int)) (cst cntOf o).1
 | 0, i, hi => by
  refine Ev.step (fun k => spec_l8Stack.l0.eq_2 (k := k) ..) ?_
  simp only [if_neg (show ¬ ((i : Int) < ((o.map conv).length : Int)) by simp; omega)]
  rw [List.take_of_length_le (by omega)]
  exact Ev.now _
 | d + 1, i, hi => by
  obtain ⟨e, m', l', h1, h2, h3, h4, h5⟩ := h.step i (by omega)
  have ih := stack_go h hl d (i + 1) (by omega)
  have hm := h3.made
  have hcl := h3.cells_length (G := cntOf)
  have ht := h3.taken (G := cntOf) getter_above.bound
  simp only [List.length_take] at hm
  rw [h2, cst_snoc] at ih
  refine Ev.step (fun k => spec_l8Stack.l0.eq_2 (k := k) ..) ?_
  simp only [if_pos (show ((i : Int) < ((o.map conv).length : Int)) by simp; omega), if_pos (show (0 : Int) ≤ (i : Int) by omega), rd59_at h1, wrap_up (show i ≤ 1000000000 by omega), conv_f1]
  rcases h5 with ⟨hs, _⟩ | ⟨hs, hn, _⟩ | ⟨hs, hn, _⟩
  ·rw [cstep_43 hs] at ih
   simp only [if_pos (conv_43 hs)]
   refine Ev.bind (count_ev _ (by omega) (fun y hy => by have := ht.1 y hy; omega)) ?_
   simp only [if_pos (show (cst cntOf (o.take i)).2.length < 17592186044416 by omega), if_pos (show (cst cntOf (o.take i)).1.length < 17592186044416 by omega)]
   exact ih
  ·rw [cstep_46 hs] at ih
   simp only [conv_46 hs, show ¬ ((46 : Int) = 43) by decide, show ¬ ((46 : Int) = 45) by decide, if_false]
   exact ih
  ·have hr := h3.range _ hn
   rw [cstep_45 hs] at ih
   simp only [conv_45 hs, show ¬ ((45 : Int) = 43) by decide, if_false, if_true, wrap_small (n := e.f1 - 1) (by omega) (by omega), if_pos (show 0 ≤ e.f1 - 1 by omega), if_pos (show e.f1 - 1 < ((cst cntOf (o.take i)).1.length : Int) by omega)]
   exact Ev.bind (l7Without_ev _ _ (by omega)) ih
theorem cells_ev {o : List S55} {m : Nat} {l : List Int} (h : Good o m l) (hl : o.length ≤ 1000000) : Ev (fun k => spec_l8Cells.f k (o.map conv)) (cst Gf o).1 := cells_go h hl o.length 0 (Nat.zero_add _)
theorem stack_ev {o : List S55} {m : Nat} {l : List Int} (h : Good o m l) (hl : o.length ≤ 1000000) : Ev (fun k => spec_l8Stack.f k (o.map conv)) (cst cntOf o).1 := stack_go h hl o.length 0 (Nat.zero_add _)
def cellsOf (G : List Int → Int) (a0 : ByteArray) : List Int × Bool := if (toldOf a0).2.2 = true then ((cst G (toldOf a0).1).1, true) else ([], false)
def manyOf (G : List Int → Int) (a0 : ByteArray) : Int := if (toldOf a0).2.2 = true then cntOf (cst G (toldOf a0).1).1 else -1
theorem kept_told (G : List Int → Int) (a0 : ByteArray) : keptOf G a0 = ((cellsOf G a0).1, manyOf G a0, (cellsOf G a0).2) := by
 obtain ⟨m, l, g, hm, hl⟩ := told_good a0
 unfold keptOf cellsOf manyOf
 split
 ·rw [hm, Int.toNat_natCast, g.kloop m (Nat.le_refl _), Nat.sub_self]
  simp
 ·rfl
theorem kept_f (a0 : ByteArray) (hs : a0.size ≤ 1048576) : impl_kept.f a0 = some ((cellsOf Gf a0).1, manyOf Gf a0, (cellsOf Gf a0).2) := by
 obtain ⟨m, l, g, hm, hl⟩ := told_good a0
 have := g.made
 unfold impl_kept.f
 rw [if_pos ⟨hs, by omega, by omega, hl, by rw [hm]; exact g.values⟩, kept_told]
theorem above_f (a0 : ByteArray) (hs : a0.size ≤ 1048576) : impl_above.f a0 = some ((cellsOf cntOf a0).1, manyOf cntOf a0, (cellsOf cntOf a0).2) := by
 obtain ⟨m, l, g, hm, hl⟩ := told_good a0
 have := g.made
 unfold impl_above.f
 rw [if_pos ⟨hs, by omega, by omega, hl, by rw [hm]; exact g.values⟩, kept_told]
theorem cellsOf_len (G : List Int → Int) (a0 : ByteArray) : (cellsOf G a0).1.length ≤ 600 := by
 obtain ⟨m, l, g, hm, hl⟩ := told_good a0
 have h1 := g.cells_length (G := G)
 have h2 := g.made
 unfold cellsOf
 split
 ·dsimp only; omega
 ·simp
end Go.Proofs.YtndjbnkmhpbnpaaGreatDoor.Pr
namespace Go.Proofs.YtndjbnkmhpbnpaaGreatDoor.Pr
open Go.RowKit Go.Proofs.YtndjbnkmhpbnpaaGreatDoorW.PrintWords Go.Proofs.YtndjbnkmhpbnpaaGreatDoorW.PrintLast Go.Proofs.YtndjbnkmhpbnpaaGreatDoorW.PrintMore
set_option linter.unusedVariables false
set_option linter.unusedSimpArgs false
theorem sub_len : ∀ (A B : List Int), A.Nodup → (∀ x ∈ A, x ∈ B) → A.length ≤ B.length
 | [], B, _, _ => Nat.zero_le _
 | a :: A, B, hd, hs => by
  rw [List.nodup_cons] at hd
  have ha := hs a (by simp)
  have h1 := sub_len A (B.erase a) hd.2 (fun x hx => by
   have hne : x ≠ a := fun e => hd.1 (by rw [← e]; exact hx)
   exact (List.mem_erase_of_ne hne).2 (hs x (List.mem_cons_of_mem _ hx)))
  have h2 := List.length_erase_of_mem ha
  have h3 : 0 < B.length := List.length_pos_iff.2 (List.ne_nil_of_mem ha)
  simp only [List.length_cons]
  omega
def R0 (t : Nat) : List Int := (List.range t).map (fun (i : Nat) => ((i : Nat) : Int))
theorem R0_mem {t : Nat} {x : Int} : x ∈ R0 t ↔ 0 ≤ x ∧ x < t := by
 unfold R0
 rw [List.mem_map]
 constructor
 ·rintro ⟨i, hi, rfl⟩
  have := List.mem_range.1 hi
  omega
 ·rintro ⟨h1, h2⟩
  obtain ⟨k, rfl⟩ := Int.eq_ofNat_of_zero_le h1
  exact ⟨k, List.mem_range.2 (by omega), rfl⟩
theorem R0_length (t : Nat) : (R0 t).length = t := by simp [R0]
theorem R0_nodup (t : Nat) : (R0 t).Nodup := by
 unfold R0
 rw [List.Nodup, List.pairwise_map]
 exact List.nodup_range.imp (fun h e => h (by omega))
theorem R0_succ (t : Nat) : R0 (t + 1) = R0 t ++ [(t : Int)] := by
 unfold R0
 rw [List.range_succ, List.map_append]
 rfl
def Fresh (G : List Int → Int) : Prop := ∀ L : List Int, 0 ≤ G L ∧ G L ∉ L
theorem ffree_out_go (L : List Int) : ∀ (n i : Nat), (L.filter (fun y => decide ((i : Int) ≤ y))).length ≤ n → ((ffree L i : Nat) : Int) ∉ L
 | 0, i, h => by
  by_cases hi : (i : Int) ∈ L
  ·have : (i : Int) ∈ L.filter (fun y => decide ((i : Int) ≤ y)) := List.mem_filter.2 ⟨hi, by simp⟩
   have := List.length_pos_iff.2 (List.ne_nil_of_mem this)
   omega
  ·rw [ffree_out hi]
   exact hi
 | n + 1, i, h => by
  by_cases hi : (i : Int) ∈ L
  ·rw [ffree_in hi]
   have := filt_lt L i hi
   exact ffree_out_go L n (i + 1) (by
    have e : (((i + 1 : Nat)) : Int) = (i : Int) + 1 := by omega
    rw [e]
    omega)
  ·rw [ffree_out hi]
   exact hi
theorem fresh_first : Fresh Gf := fun L => ⟨by unfold Gf; omega, ffree_out_go L _ 0 (Nat.le_refl _)⟩
theorem fresh_above : Fresh cntOf := fun L => by
 have h := cntGo_le L 0
 refine ⟨h.1, fun hm => ?_⟩
 have := h.2 _ hm
 unfold cntOf at this
 omega
theorem first_le (L : List Int) : Gf L ≤ L.length := by
 have hex : ∃ k : Nat, k ≤ L.length ∧ ¬ (k : Int) ∈ L := by
  apply Classical.byContradiction
  intro h
  have h1 := sub_len (R0 (L.length + 1)) L (R0_nodup _) (fun x hx => by
   obtain ⟨h2, h3⟩ := R0_mem.1 hx
   obtain ⟨k, rfl⟩ := Int.eq_ofNat_of_zero_le h2
   apply Classical.byContradiction
   intro h4
   exact h ⟨k, by omega, h4⟩)
  rw [R0_length] at h1
  omega
 obtain ⟨k, hk, hm⟩ := hex
 have := ffree_le hm k 0 (by omega)
 unfold Gf
 omega
theorem Good.cells {G : List Int → Int} (hG : Fresh G) {o : List S55} {m : Nat} {l : List Int} (g : Good o m l) :
  (cst G o).2 = l.map (cellAt (cst G o).1) ∧ (l.map (cellAt (cst G o).1)).Nodup ∧ ∀ y ∈ (cst G o).1, 0 ≤ y := by
 induction g with
 | nil => exact ⟨rfl, List.nodup_nil, fun y hy => by cases hy⟩
 | @make o m l s g hs ih =>
  obtain ⟨h1, h2, h3⟩ := ih
  have hl := g.cells_length (G := G)
  have hf := hG (cst G o).2
  rw [cst_snoc, cstep_43 (by exact hs)]
  have e1 : l.map (cellAt ((cst G o).1 ++ [G (cst G o).2])) = l.map (cellAt (cst G o).1) := by
   apply List.map_congr_left
   intro n hn
   have := g.range n hn
   unfold cellAt
   rw [rdi_app (by omega)]
  have e2 : cellAt ((cst G o).1 ++ [G (cst G o).2]) ((m + 1 : Nat) : Int) = G (cst G o).2 := by
   unfold cellAt
   rw [show ((m + 1 : Nat) : Int) - 1 = (m : Int) by omega, rd_at (by simp; omega), List.getElem_append_right (by omega)]
   simp [hl]
  refine ⟨?_, ?_, ?_⟩
  ·dsimp only
   rw [List.map_append, List.map_singleton, e1, e2, ← h1]
  ·dsimp only
   rw [List.map_append, List.map_singleton, e1, e2, List.nodup_append]
   refine ⟨h2, by simp, fun a ha b hb => ?_⟩
   have := List.mem_singleton.1 hb
   subst this
   rintro rfl
   rw [← h1] at ha
   exact hf.2 ha
  ·intro y hy
   rcases List.mem_append.1 hy with hy | hy
   ·exact h3 y hy
   ·have := List.mem_singleton.1 hy
    subst this
    exact hf.1
 | @use o m l s n g hs hn ih =>
  rw [cst_snoc, cstep_46 (by exact hs)]
  exact ih
 | @kill o m l s n g hs hn ih =>
  obtain ⟨h1, h2, h3⟩ := ih
  rw [cst_snoc, cstep_45 (by exact hs)]
  refine ⟨?_, nodup_filter_map _ h2, h3⟩
  dsimp only
  rw [h1]
  exact filter_cell h2 hn
theorem cell_pos {c ys : List Int} (h : ∀ y ∈ c, 0 ≤ y) {n : Int} (h1 : 1 ≤ n) (h2 : n ≤ c.length) : 0 ≤ rd (c ++ ys) (n - 1) := by
 rw [rdi_app (by omega)]
 obtain ⟨k, hk⟩ := Int.eq_ofNat_of_zero_le (show 0 ≤ n - 1 by omega)
 rw [hk, rd_at (by omega)]
 exact h _ (List.getElem_mem _)
theorem Good.cells_fit {G : List Int → Int} (hG : Fresh G) {o : List S55} {m : Nat} {l : List Int} (g : Good o m l) : ∀ ys : List Int, fitI ((cst G o).1 ++ ys) o [] = true ∧ tkgo ((cst G o).1 ++ ys) o [] = (cst G o).2 := by
 induction g with
 | nil => intro ys; exact ⟨rfl, rfl⟩
 | @make o m l s g hs ih =>
  intro ys
  have hl := g.cells_length (G := G)
  have hf := hG (cst G o).2
  rw [cst_snoc, cstep_43 (by exact hs)]
  obtain ⟨i1, i2⟩ := ih ([G (cst G o).2] ++ ys)
  rw [← List.append_assoc] at i1 i2
  have e2 : rd ((cst G o).1 ++ [G (cst G o).2] ++ ys) (((m + 1 : Nat) : Int) - 1) = G (cst G o).2 := by
   rw [show ((m + 1 : Nat) : Int) - 1 = (m : Int) by omega, List.append_assoc, rd_at (by simp; omega), List.getElem_append_right (by omega)]
   simp [hl]
  dsimp only
  rw [fitI_snoc, tkgo_snoc, i1, i2]
  refine ⟨?_, ?_⟩
  ·unfold chk
   dsimp only
   rw [e2, if_neg (by omega), if_neg (fun h => hf.2 h.2)]
   rfl
  ·unfold tkstep
   dsimp only
   rw [if_pos hs, e2]
 | @use o m l s n g hs hn ih =>
  intro ys
  have hr := g.range _ hn
  have hl := g.cells_length (G := G)
  rw [cst_snoc, cstep_46 (by exact hs)]
  obtain ⟨i1, i2⟩ := ih ys
  rw [fitI_snoc, tkgo_snoc, i1, i2]
  have hp := cell_pos (ys := ys) (g.cells hG).2.2 hr.1 (by omega)
  refine ⟨?_, ?_⟩
  ·unfold chk
   dsimp only
   rw [if_neg (by omega), if_neg (fun h => by rw [hs] at h; exact absurd h.1 (by decide))]
   rfl
  ·unfold tkstep
   dsimp only
   rw [if_neg (by rw [hs]; decide), if_neg (by rw [hs]; decide)]
 | @kill o m l s n g hs hn ih =>
  intro ys
  have hr := g.range _ hn
  have hl := g.cells_length (G := G)
  rw [cst_snoc, cstep_45 (by exact hs)]
  obtain ⟨i1, i2⟩ := ih ys
  have hp := cell_pos (ys := ys) (g.cells hG).2.2 hr.1 (by omega)
  dsimp only
  rw [fitI_snoc, tkgo_snoc, i1, i2]
  refine ⟨?_, ?_⟩
  ·unfold chk
   dsimp only
   rw [if_neg (by omega), if_neg (fun h => by rw [hs] at h; exact absurd h.1 (by decide))]
   rfl
  ·unfold tkstep
   dsimp only
   rw [if_neg (by rw [hs]; decide), if_pos hs, rdi_app (by omega)]
theorem Most.mono {o : List S55} {K K' : Int} (h : Most o K) (hk : K ≤ K') : Most o K' := ⟨by have := h.1; omega, fun i m l hi g => by have := h.2 i m l hi g; omega⟩
theorem Most.snoc {o : List S55} {e : S55} {m : Nat} {l : List Int} {K : Int} (g : Good (o ++ [e]) m l) (h : Most o K) (hl : (l.length : Int) ≤ K) : Most (o ++ [e]) K := by
 refine ⟨h.1, fun i m' l' hi g' => ?_⟩
 by_cases hio : i ≤ o.length
 ·rw [List.take_append_of_le_length hio] at g'
  exact h.2 i m' l' hio g'
 ·rw [List.take_of_length_le (by rw [List.length_append, List.length_singleton]; omega)] at g'
  obtain ⟨rfl, rfl⟩ := g'.uniq g
  exact hl
theorem Most.init {o : List S55} {e : S55} {K : Int} (h : Most (o ++ [e]) K) : Most o K :=
 ⟨h.1, fun i m l hi g => h.2 i m l (by rw [List.length_append]; omega) (by rw [List.take_append_of_le_length hi]; exact g)⟩
theorem cnt_lt {L : List Int} : ∀ x ∈ L, x < cntOf L := fun x hx => by
 have := (cntGo_le L 0).2 x hx
 unfold cntOf
 omega
theorem cellAt_mem {c : List Int} {n : Int} (h1 : 1 ≤ n) (h2 : n ≤ c.length) : cellAt c n ∈ c := by
 unfold cellAt
 obtain ⟨k, hk⟩ := Int.eq_ofNat_of_zero_le (show 0 ≤ n - 1 by omega)
 rw [hk, rd_at (by omega)]
 exact List.getElem_mem _
theorem Good.cells_room {G : List Int → Int} (hG : Fresh G) {o : List S55} {m : Nat} {l : List Int} (g : Good o m l) : (l.length : Int) ≤ cntOf (cst G o).1 := by
 obtain ⟨h1, h2, h3⟩ := g.cells hG
 have hl := g.cells_length (G := G)
 have h0 : 0 ≤ cntOf (cst G o).1 := (cntGo_le _ 0).1
 have := sub_len (l.map (cellAt (cst G o).1)) (R0 (cntOf (cst G o).1).toNat) h2 (fun x hx => by
  obtain ⟨n, hn, rfl⟩ := List.mem_map.1 hx
  have hr := g.range n hn
  have hm := cellAt_mem (c := (cst G o).1) hr.1 (by omega)
  have := cnt_lt _ hm
  exact R0_mem.2 ⟨h3 _ hm, by omega⟩)
 rw [R0_length, List.length_map] at this
 omega
theorem Good.cells_most {G : List Int → Int} (hG : Fresh G) {o : List S55} {m : Nat} {l : List Int} (g : Good o m l) : Most o (cntOf (cst G o).1) := by
 induction g with
 | nil => exact ⟨(show (0 : Int) ≤ cntOf [] by decide), fun i m l hi g' => by
   have : i = 0 := by simpa using hi
   subst this
   obtain ⟨rfl, rfl⟩ := g'.uniq .nil
   exact (show (0 : Int) ≤ cntOf [] by decide)⟩
 | @make o m l s g hs ih =>
  have g' := g.make hs
  refine Most.snoc g' (ih.mono ?_) (g'.cells_room hG)
  rw [cst_snoc, cstep_43 (by exact hs)]
  unfold cntOf
  rw [cntGo_snoc]
  unfold mx
  split <;> omega
 | @use o m l s n g hs hn ih =>
  have g' := g.use hs hn
  refine Most.snoc g' (ih.mono ?_) (g'.cells_room hG)
  rw [cst_snoc, cstep_46 (by exact hs)]
  exact Int.le_refl _
 | @kill o m l s n g hs hn ih =>
  have g' := g.kill hs hn
  refine Most.snoc g' (ih.mono ?_) (g'.cells_room hG)
  rw [cst_snoc, cstep_45 (by exact hs)]
  exact Int.le_refl _
theorem Good.first_most {o : List S55} {m : Nat} {l : List Int} (g : Good o m l) : ∀ K : Int, Most o K → cntOf (cst Gf o).1 ≤ K := by
 induction g with
 | nil => intro K h; exact h.1
 | @make o m l s g hs ih =>
  intro K h
  have g' := g.make hs
  have h1 := ih K h.init
  have h2 := h.2 (o.length + 1) _ _ (by simp) (by rw [List.take_of_length_le (by simp)]; exact g')
  have h3 := first_le (cst Gf o).2
  rw [(g.cells fresh_first).1, List.length_map, ← (g.cells fresh_first).1] at h3
  rw [cst_snoc, cstep_43 (by exact hs)]
  unfold cntOf at h1 ⊢
  rw [cntGo_snoc, mx_le]
  rw [List.length_append, List.length_singleton] at h2
  exact ⟨h1, by omega⟩
 | @use o m l s n g hs hn ih =>
  intro K h
  rw [cst_snoc, cstep_46 (by exact hs)]
  exact ih K h.init
 | @kill o m l s n g hs hn ih =>
  intro K h
  rw [cst_snoc, cstep_45 (by exact hs)]
  exact ih K h.init
theorem Good.first_is {o : List S55} {m : Nat} {l : List Int} (g : Good o m l) : cntOf (cst Gf o).1 = mst (lvs o) o.length 0 0 := by
 have h1 := g.first_most _ ((g.most _).1 (Int.le_refl _))
 have h2 := (g.most _).2 (g.cells_most fresh_first)
 omega
theorem Good.stack_ge {o : List S55} {m : Nat} {l : List Int} (g : Good o m l) : cntOf (cst Gf o).1 ≤ cntOf (cst cntOf o).1 := by
 rw [g.first_is]
 exact (g.most _).2 (g.cells_most fresh_above)
end Go.Proofs.YtndjbnkmhpbnpaaGreatDoor.Pr
namespace Go.Proofs.YtndjbnkmhpbnpaaGreatDoor.Pr
open Go.RowKit Go.Proofs.YtndjbnkmhpbnpaaGreatDoorW.PrintWords Go.Proofs.YtndjbnkmhpbnpaaGreatDoorW.PrintLast Go.Proofs.YtndjbnkmhpbnpaaGreatDoorW.PrintMore
attribute [local go_sem] max2_int min2_int max_two min_two max_three min_three max_four min_four   -- for this text's walks alone
set_option linter.unusedVariables false
set_option linter.unusedSimpArgs false
def impl_AreNested.l0 : Nat → Bool → List (S31) → List (S55) → Int → Int → Option (Bool)
 | 0, _, _, _, _, _ => none
 | k + 1, x5, x6, x19, x20, x21 => if x21 < x20 then (if 0 ≤ x21 then (if x21 < (x19.length : Int) then ((impl_alive.f k x6 (wrap64 (x21 - 1))).bind fun t432 => (if ((rd_T55 x19 x21).f0).toList = ([45] : List UInt8) then (if 0 ≤ (wrap64 ((t432.length : Int) - 1)) then (if (wrap64 ((t432.length : Int) - 1)) < (t432.length : Int) then (if (rd t432 (wrap64 ((t432.length : Int) - 1))) = ((rd_T55 x19 x21).f1) then (impl_AreNested.l0 k x5 x6 x19 x20 (wrap64 (x21 + 1))) else (some false)) else (none)) else (none)) else (impl_AreNested.l0 k x5 x6 x19 x20 (wrap64 (x21 + 1))))) else (none)) else (none)) else (some x5)
def impl_AreNested.f (k : Nat) (a0 : ByteArray) : Option (Bool) := (impl_told.f a0).bind fun bt422 => ((impl_lives.f bt422.1 bt422.2.1).bind fun t427 => (impl_AreNested.l0 k bt422.2.2 t427 bt422.1 (bt422.1.length : Int) 0))
set_option maxHeartbeats 8000000 in
set_option maxRecDepth 100000 in
theorem impl_AreNested.calls (k : Nat) (a0 : ByteArray) (r : Bool) (w : World) (hLd : LaidW w) (h : impl_AreNested.f k a0 = some r) :
  Calls Tryz.prog 27 #[.string a0] w fun e w' => e = .returned (.bool r) ∧ Below w.heap.size w w' := by
 have hu55 := Tryz.underlying55
 have HB := Az.mk (Below.refl w.heap.size w)
 have HLd := Az.mk hLd
 clear hLd
 have H : ((impl_told.f a0).bind fun bt422 => ((impl_lives.f bt422.1 bt422.2.1).bind fun t427 => (impl_AreNested.l0 k bt422.2.2 t427 bt422.1 (bt422.1.length : Int) 0))) = some r := h
 clear h
 replace H := Option.bind_eq_some_iff.mp H
 obtain ⟨⟨t422, t423, t424⟩, A20, H⟩ := H
 replace H : ((impl_lives.f t422 t423).bind fun t427 => (impl_AreNested.l0 k t424 t427 t422 (t422.length : Int) 0)) = some r := H
 have A2 := Az.mk A20
 clear A20
 replace H := Option.bind_eq_some_iff.mp H
 obtain ⟨t427, A30, H⟩ := H
 replace H : (impl_AreNested.l0 k t424 t427 t422 (t422.length : Int) 0) = some r := H
 have A3 := Az.mk A30
 clear A30
 have H' := Az.mk H
 clear H
 go_enter Tryz.func27, Tryz.ntmps27
 go_wp2_with (first | (go_at_call 50; (with_reducible refine (impl_told.calls a0 t422 t423 t424 _ (HLd.out.below (by repeat first|exact HB.out|apply bA|apply bN|apply bD)) A2.out).mono ?_); rintro e w4 ⟨v425, rfl, ho0, hb⟩; have n0_ := Az.mk (Kd.R_lower ho0 (bZ (by repeat first|exact HB.out|apply bA|apply bN|apply bD))); have n1_ := Az.mk (bS (by repeat first|exact HB.out|apply bA|apply bN|apply bD) hb); clear HB; have HO426 := n0_; have HB := n1_; clear n0_ n1_; (try clear hb); (try clear hb2); (try clear hk); (try clear hi); (try clear ho0); obtain ⟨Ao5, co5, eo5⟩ := Kd.R_slice HO426.out; subst eo5) | (go_at_call 51; (with_reducible refine (impl_lives.calls _ _ t422 t423 t427 _ ?side1 ?side2 A3.out).mono ?_); (case side1 => repeat (first | exact (Kd.R_reads' HO426.out).2.2 | (with_reducible refine Kd.C_alloc ?_ _) | (with_reducible refine Kd.C_drewN ?_ _) | (with_reducible refine Kd.C_drew ?_))); (case side2 => exact (Kd.R_reads' HO426.out).2.1); rintro e w6 ⟨v428, rfl, ho0, hb⟩; have n0_ := Az.mk (Kd.Rb (by (with_reducible repeat first|apply Kd.Ra|apply Kd.Rn|apply Kd.Rw); exact HO426.out) hb); have n1_ := Az.mk (Kd.R_lower ho0 (bZ (by repeat first|exact HB.out|apply bA|apply bN|apply bD))); have n2_ := Az.mk (bS (by repeat first|exact HB.out|apply bA|apply bN|apply bD) hb); clear HO426; clear HB; have HO426 := n0_; have HO429 := n1_; have HB := n2_; clear n0_ n1_ n2_; (try clear hb); (try clear hb2); (try clear hk); (try clear hi); (try clear ho0)))
 repeat (go_quiet (first | (go_at_call 50; (with_reducible refine (impl_told.calls a0 t422 t423 t424 _ (HLd.out.below (by repeat first|exact HB.out|apply bA|apply bN|apply bD)) A2.out).mono ?_); rintro e w4 ⟨v425, rfl, ho0, hb⟩; have n0_ := Az.mk (Kd.R_lower ho0 (bZ (by repeat first|exact HB.out|apply bA|apply bN|apply bD))); have n1_ := Az.mk (bS (by repeat first|exact HB.out|apply bA|apply bN|apply bD) hb); clear HB; have HO426 := n0_; have HB := n1_; clear n0_ n1_; (try clear hb); (try clear hb2); (try clear hk); (try clear hi); (try clear ho0); obtain ⟨Ao5, co5, eo5⟩ := Kd.R_slice HO426.out; subst eo5) | (go_at_call 51; (with_reducible refine (impl_lives.calls _ _ t422 t423 t427 _ ?side1 ?side2 A3.out).mono ?_); (case side1 => repeat (first | exact (Kd.R_reads' HO426.out).2.2 | (with_reducible refine Kd.C_alloc ?_ _) | (with_reducible refine Kd.C_drewN ?_ _) | (with_reducible refine Kd.C_drew ?_))); (case side2 => exact (Kd.R_reads' HO426.out).2.1); rintro e w6 ⟨v428, rfl, ho0, hb⟩; have n0_ := Az.mk (Kd.Rb (by (with_reducible repeat first|apply Kd.Ra|apply Kd.Rn|apply Kd.Rw); exact HO426.out) hb); have n1_ := Az.mk (Kd.R_lower ho0 (bZ (by repeat first|exact HB.out|apply bA|apply bN|apply bD))); have n2_ := Az.mk (bS (by repeat first|exact HB.out|apply bA|apply bN|apply bD) hb); clear HO426; clear HB; have HO426 := n0_; have HO429 := n1_; have HB := n2_; clear n0_ n1_ n2_; (try clear hb); (try clear hb2); (try clear hk); (try clear hi); (try clear ho0))); try go_wp2_with (first | (go_at_call 50; (with_reducible refine (impl_told.calls a0 t422 t423 t424 _ (HLd.out.below (by repeat first|exact HB.out|apply bA|apply bN|apply bD)) A2.out).mono ?_); rintro e w4 ⟨v425, rfl, ho0, hb⟩; have n0_ := Az.mk (Kd.R_lower ho0 (bZ (by repeat first|exact HB.out|apply bA|apply bN|apply bD))); have n1_ := Az.mk (bS (by repeat first|exact HB.out|apply bA|apply bN|apply bD) hb); clear HB; have HO426 := n0_; have HB := n1_; clear n0_ n1_; (try clear hb); (try clear hb2); (try clear hk); (try clear hi); (try clear ho0); obtain ⟨Ao5, co5, eo5⟩ := Kd.R_slice HO426.out; subst eo5) | (go_at_call 51; (with_reducible refine (impl_lives.calls _ _ t422 t423 t427 _ ?side1 ?side2 A3.out).mono ?_); (case side1 => repeat (first | exact (Kd.R_reads' HO426.out).2.2 | (with_reducible refine Kd.C_alloc ?_ _) | (with_reducible refine Kd.C_drewN ?_ _) | (with_reducible refine Kd.C_drew ?_))); (case side2 => exact (Kd.R_reads' HO426.out).2.1); rintro e w6 ⟨v428, rfl, ho0, hb⟩; have n0_ := Az.mk (Kd.Rb (by (with_reducible repeat first|apply Kd.Ra|apply Kd.Rn|apply Kd.Rw); exact HO426.out) hb); have n1_ := Az.mk (Kd.R_lower ho0 (bZ (by repeat first|exact HB.out|apply bA|apply bN|apply bD))); have n2_ := Az.mk (bS (by repeat first|exact HB.out|apply bA|apply bN|apply bD) hb); clear HO426; clear HB; have HO426 := n0_; have HO429 := n1_; have HB := n2_; clear n0_ n1_ n2_; (try clear hb); (try clear hb2); (try clear hk); (try clear hi); (try clear ho0))))
 go_loopg [21] k (fun kq v21 w' => ∃ (x21_1 : Int), v21 = .int .i64 x21_1 ∧ Az (impl_AreNested.l0 kq t424 t427 t422 (t422.length : Int) x21_1 = some r) ∧ Az (kq ≤ k) ∧ Az (Kd.R k31 31 w' w.heap.size (fun _ => True) v428 t427) ∧ Az (Kd.R k55 55 w' w.heap.size (fun _ => True) (.slice Ao5 t422.length co5) t422) ∧ Az (Below w.heap.size w w'))
 case atStart => exact ⟨(0), (by first | rfl | (simp; done) | (simp [*]; done)), H', ⟨Nat.le_refl _⟩, ⟨by (with_reducible repeat first|apply Kd.Ra|apply Kd.Rn|apply Kd.Rw); exact HO429.out⟩, ⟨by (with_reducible repeat first|apply Kd.Ra|apply Kd.Rn|apply Kd.Rw); exact HO426.out⟩, ⟨by repeat (first | (with_reducible first|exact HB.out|apply bA|apply bN|apply bD) | exact HB.out)⟩⟩
 case round =>
  clear H'
  try clear c2
  try clear p2
  obtain ⟨x21_1, rfl, HA, HK1, HO_6, HO_19, HB⟩ := hrel
  cases gk with
  | zero => exact absurd HA.out (by simp [impl_AreNested.l0])
  | succ k1 =>
   have H := HA.out
   clear HA
   simp only [impl_AreNested.l0] at H
   by_cases c7 : x21_1 < (t422.length : Int)
   ·rw [if_pos c7] at H
    have c7b0 : decide (x21_1 < (t422.length : Int)) = true := decide_eq_true c7
    clear c7
    by_cases c8 : 0 ≤ x21_1
    ·rw [if_pos c8] at H
     have c8b0 : decide (0 ≤ x21_1) = true := decide_eq_true c8
     clear c8
     by_cases c9 : x21_1 < (t422.length : Int)
     ·rw [if_pos c9] at H
      have c9b0 : decide (x21_1 < (t422.length : Int)) = true := decide_eq_true c9
      clear c9
      replace H := Option.bind_eq_some_iff.mp H
      obtain ⟨t432, A100, H⟩ := H
      replace H : (if ((rd_T55 t422 x21_1).f0).toList = ([45] : List UInt8) then (if 0 ≤ (wrap64 ((t432.length : Int) - 1)) then (if (wrap64 ((t432.length : Int) - 1)) < (t432.length : Int) then (if (rd t432 (wrap64 ((t432.length : Int) - 1))) = ((rd_T55 t422 x21_1).f1) then (impl_AreNested.l0 k1 t424 t427 t422 (t422.length : Int) (wrap64 (x21_1 + 1))) else (some false)) else (none)) else (none)) else (impl_AreNested.l0 k1 t424 t427 t422 (t422.length : Int) (wrap64 (x21_1 + 1)))) = some r := H
      have A10 := Az.mk A100
      clear A100
      by_cases c11 : ((rd_T55 t422 x21_1).f0).toList = ([45] : List UInt8)
      ·rw [if_pos c11] at H
       have c11b0 : (((rd_T55 t422 x21_1).f0).toList == ([45] : List UInt8)) = true := beq_iff_eq.mpr c11
       have c11b1 : (((rd_T55 t422 x21_1).f0).toList != ([45] : List UInt8)) = false := bne_eq_false_iff_eq.mpr c11
       clear c11
       obtain ⟨ji12, hji12⟩ : ∃ j_ : Int, (wrap64 ((t432.length : Int) - 1)) = j_ := ⟨_, rfl⟩
       replace H : (if 0 ≤ (ji12) then (if (ji12) < (t432.length : Int) then (if (rd t432 (ji12)) = ((rd_T55 t422 x21_1).f1) then (impl_AreNested.l0 k1 t424 t427 t422 (t422.length : Int) (wrap64 (x21_1 + 1))) else (some false)) else (none)) else (none)) = some r := by first | (rw [hji12] at H; exact H) | (simp only [hji12] at H ⊢; exact H)
       (try rw [hji12] at A10)
       have hji12w : (IntKind.i64.wrap ((t432.length : Int) - 1)) = ji12 := (i64_w _).trans hji12
       by_cases c13 : 0 ≤ (ji12)
       ·rw [if_pos c13] at H
        have c13b0 : decide (0 ≤ (ji12)) = true := decide_eq_true c13
        clear c13
        by_cases c14 : (ji12) < (t432.length : Int)
        ·rw [if_pos c14] at H
         have c14b0 : decide ((ji12) < (t432.length : Int)) = true := decide_eq_true c14
         clear c14
         by_cases c15 : (rd t432 (ji12)) = ((rd_T55 t422 x21_1).f1)
         ·rw [if_pos c15] at H
          have c15b0 : ((rd t432 (ji12)) == ((rd_T55 t422 x21_1).f1)) = true := beq_iff_eq.mpr c15
          have c15b1 : ((rd t432 (ji12)) != ((rd_T55 t422 x21_1).f1)) = false := bne_eq_false_iff_eq.mpr c15
          clear c15
          have H' := Az.mk H
          clear H
          have p430 : 0 ≤ (x21_1 : Int) := of_decide_eq_true (by first|(with_reducible assumption)|assumption)
          have q430 : x21_1 < (t422.length : Int) := of_decide_eq_true (by first|(with_reducible assumption)|assumption)
          obtain ⟨ad430, e430, hx430_0, hx430_1⟩ := at_T55 (Kd.R_reads' HO_19.out).2.2 x21_1 p430 q430
          cases e430
          replace p430 := eq_true p430
          replace q430 := eq_true q430
          go_wp2_with (first | ((with_reducible refine gate_dst (N := 8) rfl ?_); (try (refine gate_guard (by rfl) ?_; dsimp only)); refine box_event ?hg (N := 8) ?hd (cs := #[.string (⟨#[]⟩ : ByteArray), .int .i64 0]) (t := 55) ?hr ?_; (case hd => rfl); (case hg => rfl); (case hr => first | (go_simp; done) | (go_simp; rfl)); intro gb431 hg w16 hbox hb; have n0_ := Az.mk (Kd.Rb (by (with_reducible repeat first|apply Kd.Ra|apply Kd.Rn|apply Kd.Rw); exact HO_6.out) hb); have n1_ := Az.mk (Kd.Rb (Kd.R_elderB (by (with_reducible repeat first|apply Kd.Ra|apply Kd.Rn|apply Kd.Rw); exact HO_19.out) gb431 (Nat.le_of_eq hg.symm)) hb); have n2_ := Az.mk (bS (by repeat first|exact HB.out|apply bA|apply bN|apply bD) hb); have n3_ := Az.mk (hbox); have n4_ := Az.mk ((by rw [hg]; exact (bZ (by repeat first|exact HB.out|apply bA|apply bN|apply bD)) : w.heap.size ≤ gb431)); have n5_ := Az.mk ((by rw [hg]; exact (bZ (by repeat first|exact HB.out|apply bA|apply bN|apply bD)) : w.heap.size ≤ gb431)); clear HO_6; clear HO_19; clear HB; have HO_6 := n0_; have HO_19 := n1_; have HB := n2_; have BK431 := n3_; have GW431 := n4_; have GE431 := n5_; clear n0_ n1_ n2_ n3_ n4_ n5_; clear hb hbox hg; have hcz17_0 : w16.cell? ⟨gb431, 0, none⟩ = some (.string (⟨#[]⟩ : ByteArray)) := (blk_cell BK431.out 0).trans rfl; have hcz17_1 : w16.cell? ⟨gb431, 1, none⟩ = some (.int .i64 0) := (blk_cell BK431.out 1).trans rfl; have hfz17_0 := blk_frozen BK431.out 0; have hfz17_1 := blk_frozen BK431.out 1; obtain ⟨Ao18, co18, eo18⟩ := Kd.R_slice HO_6.out; subst eo18) | (go_at_call 57; (with_reducible refine (impl_alive.calls k1 _ _ t427 (wrap64 (x21_1 - 1)) t432 _ ?side1 ?side2 A10.out).mono ?_); (case side1 => refine (Kd.R_reads' (e := 31) (base := w.heap.size) (ok := fun k_ => True) (n := t427.length) (c := co18) ?_).2.2; exact (by (with_reducible repeat first|apply Kd.Ra|apply Kd.Rn|apply Kd.Rw); exact (Kd.R_mono (Kd.R_far (p := ⟨gb431, 1, none⟩) (Kd.R_far (p := ⟨gb431, 0, none⟩) (Kd.R_types HO_6.out BK431.out (by decide)) (fun _ hk => hk.2) (.string ((rd_T55 t422 x21_1).f0))) (fun _ hk => hk.2) (.int .i64 ((rd_T55 t422 x21_1).f1))) (fun _ h_ => h_.1)))); (case side2 => exact (Kd.R_reads' HO_6.out).2.1); rintro e w19 ⟨v433, rfl, ho0, hb⟩; have n0_ := Az.mk (Kd.Rb (by (with_reducible repeat first|apply Kd.Ra|apply Kd.Rn|apply Kd.Rw); exact (Kd.R_mono (Kd.R_far (p := ⟨gb431, 1, none⟩) (Kd.R_far (p := ⟨gb431, 0, none⟩) (Kd.R_types HO_6.out BK431.out (by decide)) (fun _ hk => hk.2) (.string ((rd_T55 t422 x21_1).f0))) (fun _ hk => hk.2) (.int .i64 ((rd_T55 t422 x21_1).f1))) (fun _ h_ => h_.1))) hb); have n1_ := Az.mk (Kd.Rb (by (with_reducible repeat first|apply Kd.Ra|apply Kd.Rn|apply Kd.Rw); exact (Kd.R_mono (Kd.R_far (p := ⟨gb431, 1, none⟩) (Kd.R_far (p := ⟨gb431, 0, none⟩) (Kd.R_mono HO_19.out (fun k_ hk => (⟨hk, hk.2⟩ : _ ∧ k_ ≠ gb431))) (fun _ hk => hk.2) (.string ((rd_T55 t422 x21_1).f0))) (fun _ hk => hk.2) (.int .i64 ((rd_T55 t422 x21_1).f1))) (fun _ h_ => h_.1))) hb); have n2_ := Az.mk (Kd.R_lower ho0 (bZ (by repeat (first | (with_reducible first|exact HB.out|apply bA|apply bN|apply bD | refine below_set ?_ GE431.out) | exact HB.out)))); have n3_ := Az.mk (blk_below (g := gb431) (o := .cells #[.string ((rd_T55 t422 x21_1).f0), .int .i64 ((rd_T55 t422 x21_1).f1)] 55 (0, 0)) (by (with_reducible repeat first|refine blN ?_ _|refine bl1 ?_|refine blA ?_ _); refine blk_put (cs := #[.string ((rd_T55 t422 x21_1).f0), .int .i64 0]) ?_ 1 _ rfl; (with_reducible repeat first|refine blN ?_ _|refine bl1 ?_|refine blA ?_ _); refine blk_put (cs := #[.string (⟨#[]⟩ : ByteArray), .int .i64 0]) ?_ 0 _ rfl; (with_reducible repeat first|refine blN ?_ _|refine bl1 ?_|refine blA ?_ _); exact BK431.out) hb); have n4_ := Az.mk (bS (by repeat (first | (with_reducible first|exact HB.out|apply bA|apply bN|apply bD | refine below_set ?_ GE431.out) | exact HB.out)) hb); clear HO_6; clear HO_19; clear BK431; clear HB; have HO_6 := n0_; have HO_19 := n1_; have HO434 := n2_; have BK431 := n3_; have HB := n4_; clear n0_ n1_ n2_ n3_ n4_; (try clear hb); (try clear hb2); (try clear hk); (try clear hi); (try clear ho0); have hcz20_0 : w19.cell? ⟨gb431, 0, none⟩ = some (.string ((rd_T55 t422 x21_1).f0)) := (blk_cell BK431.out 0).trans rfl; have hcz20_1 : w19.cell? ⟨gb431, 1, none⟩ = some (.int .i64 ((rd_T55 t422 x21_1).f1)) := (blk_cell BK431.out 1).trans rfl; have hfz20_0 := blk_frozen BK431.out 0; have hfz20_1 := blk_frozen BK431.out 1; obtain ⟨Ao21, co21, eo21⟩ := Kd.R_slice HO434.out; subst eo21; have p435 : 0 ≤ ((ji12) : Int) := of_decide_eq_true (by first|(with_reducible assumption)|assumption); have q435 : (ji12) < (t432.length : Int) := of_decide_eq_true (by first|(with_reducible assumption)|assumption); obtain ⟨ad435, e435, hx435_0⟩ := Kd.at_int (Kd.R_reads' HO434.out).2.2 (ji12) p435 q435; cases e435; replace p435 := eq_true p435; replace q435 := eq_true q435))
          repeat (go_quiet (first | ((with_reducible refine gate_dst (N := 8) rfl ?_); (try (refine gate_guard (by rfl) ?_; dsimp only)); refine box_event ?hg (N := 8) ?hd (cs := #[.string (⟨#[]⟩ : ByteArray), .int .i64 0]) (t := 55) ?hr ?_; (case hd => rfl); (case hg => rfl); (case hr => first | (go_simp; done) | (go_simp; rfl)); intro gb431 hg w16 hbox hb; have n0_ := Az.mk (Kd.Rb (by (with_reducible repeat first|apply Kd.Ra|apply Kd.Rn|apply Kd.Rw); exact HO_6.out) hb); have n1_ := Az.mk (Kd.Rb (Kd.R_elderB (by (with_reducible repeat first|apply Kd.Ra|apply Kd.Rn|apply Kd.Rw); exact HO_19.out) gb431 (Nat.le_of_eq hg.symm)) hb); have n2_ := Az.mk (bS (by repeat first|exact HB.out|apply bA|apply bN|apply bD) hb); have n3_ := Az.mk (hbox); have n4_ := Az.mk ((by rw [hg]; exact (bZ (by repeat first|exact HB.out|apply bA|apply bN|apply bD)) : w.heap.size ≤ gb431)); have n5_ := Az.mk ((by rw [hg]; exact (bZ (by repeat first|exact HB.out|apply bA|apply bN|apply bD)) : w.heap.size ≤ gb431)); clear HO_6; clear HO_19; clear HB; have HO_6 := n0_; have HO_19 := n1_; have HB := n2_; have BK431 := n3_; have GW431 := n4_; have GE431 := n5_; clear n0_ n1_ n2_ n3_ n4_ n5_; clear hb hbox hg; have hcz17_0 : w16.cell? ⟨gb431, 0, none⟩ = some (.string (⟨#[]⟩ : ByteArray)) := (blk_cell BK431.out 0).trans rfl; have hcz17_1 : w16.cell? ⟨gb431, 1, none⟩ = some (.int .i64 0) := (blk_cell BK431.out 1).trans rfl; have hfz17_0 := blk_frozen BK431.out 0; have hfz17_1 := blk_frozen BK431.out 1; obtain ⟨Ao18, co18, eo18⟩ := Kd.R_slice HO_6.out; subst eo18) | (go_at_call 57; (with_reducible refine (impl_alive.calls k1 _ _ t427 (wrap64 (x21_1 - 1)) t432 _ ?side1 ?side2 A10.out).mono ?_); (case side1 => refine (Kd.R_reads' (e := 31) (base := w.heap.size) (ok := fun k_ => True) (n := t427.length) (c := co18) ?_).2.2; exact (by (with_reducible repeat first|apply Kd.Ra|apply Kd.Rn|apply Kd.Rw); exact (Kd.R_mono (Kd.R_far (p := ⟨gb431, 1, none⟩) (Kd.R_far (p := ⟨gb431, 0, none⟩) (Kd.R_types HO_6.out BK431.out (by decide)) (fun _ hk => hk.2) (.string ((rd_T55 t422 x21_1).f0))) (fun _ hk => hk.2) (.int .i64 ((rd_T55 t422 x21_1).f1))) (fun _ h_ => h_.1)))); (case side2 => exact (Kd.R_reads' HO_6.out).2.1); rintro e w19 ⟨v433, rfl, ho0, hb⟩; have n0_ := Az.mk (Kd.Rb (by (with_reducible repeat first|apply Kd.Ra|apply Kd.Rn|apply Kd.Rw); exact (Kd.R_mono (Kd.R_far (p := ⟨gb431, 1, none⟩) (Kd.R_far (p := ⟨gb431, 0, none⟩) (Kd.R_types HO_6.out BK431.out (by decide)) (fun _ hk => hk.2) (.string ((rd_T55 t422 x21_1).f0))) (fun _ hk => hk.2) (.int .i64 ((rd_T55 t422 x21_1).f1))) (fun _ h_ => h_.1))) hb); have n1_ := Az.mk (Kd.Rb (by (with_reducible repeat first|apply Kd.Ra|apply Kd.Rn|apply Kd.Rw); exact (Kd.R_mono (Kd.R_far (p := ⟨gb431, 1, none⟩) (Kd.R_far (p := ⟨gb431, 0, none⟩) (Kd.R_mono HO_19.out (fun k_ hk => (⟨hk, hk.2⟩ : _ ∧ k_ ≠ gb431))) (fun _ hk => hk.2) (.string ((rd_T55 t422 x21_1).f0))) (fun _ hk => hk.2) (.int .i64 ((rd_T55 t422 x21_1).f1))) (fun _ h_ => h_.1))) hb); have n2_ := Az.mk (Kd.R_lower ho0 (bZ (by repeat (first | (with_reducible first|exact HB.out|apply bA|apply bN|apply bD | refine below_set ?_ GE431.out) | exact HB.out)))); have n3_ := Az.mk (blk_below (g := gb431) (o := .cells #[.string ((rd_T55 t422 x21_1).f0), .int .i64 ((rd_T55 t422 x21_1).f1)] 55 (0, 0)) (by (with_reducible repeat first|refine blN ?_ _|refine bl1 ?_|refine blA ?_ _); refine blk_put (cs := #[.string ((rd_T55 t422 x21_1).f0), .int .i64 0]) ?_ 1 _ rfl; (with_reducible repeat first|refine blN ?_ _|refine bl1 ?_|refine blA ?_ _); refine blk_put (cs := #[.string (⟨#[]⟩ : ByteArray), .int .i64 0]) ?_ 0 _ rfl; (with_reducible repeat first|refine blN ?_ _|refine bl1 ?_|refine blA ?_ _); exact BK431.out) hb); have n4_ := Az.mk (bS (by repeat (first | (with_reducible first|exact HB.out|apply bA|apply bN|apply bD | refine below_set ?_ GE431.out) | exact HB.out)) hb); clear HO_6; clear HO_19; clear BK431; clear HB; have HO_6 := n0_; have HO_19 := n1_; have HO434 := n2_; have BK431 := n3_; have HB := n4_; clear n0_ n1_ n2_ n3_ n4_; (try clear hb); (try clear hb2); (try clear hk); (try clear hi); (try clear ho0); have hcz20_0 : w19.cell? ⟨gb431, 0, none⟩ = some (.string ((rd_T55 t422 x21_1).f0)) := (blk_cell BK431.out 0).trans rfl; have hcz20_1 : w19.cell? ⟨gb431, 1, none⟩ = some (.int .i64 ((rd_T55 t422 x21_1).f1)) := (blk_cell BK431.out 1).trans rfl; have hfz20_0 := blk_frozen BK431.out 0; have hfz20_1 := blk_frozen BK431.out 1; obtain ⟨Ao21, co21, eo21⟩ := Kd.R_slice HO434.out; subst eo21; have p435 : 0 ≤ ((ji12) : Int) := of_decide_eq_true (by first|(with_reducible assumption)|assumption); have q435 : (ji12) < (t432.length : Int) := of_decide_eq_true (by first|(with_reducible assumption)|assumption); obtain ⟨ad435, e435, hx435_0⟩ := Kd.at_int (Kd.R_reads' HO434.out).2.2 (ji12) p435 q435; cases e435; replace p435 := eq_true p435; replace q435 := eq_true q435)); try go_wp2_with (first | ((with_reducible refine gate_dst (N := 8) rfl ?_); (try (refine gate_guard (by rfl) ?_; dsimp only)); refine box_event ?hg (N := 8) ?hd (cs := #[.string (⟨#[]⟩ : ByteArray), .int .i64 0]) (t := 55) ?hr ?_; (case hd => rfl); (case hg => rfl); (case hr => first | (go_simp; done) | (go_simp; rfl)); intro gb431 hg w16 hbox hb; have n0_ := Az.mk (Kd.Rb (by (with_reducible repeat first|apply Kd.Ra|apply Kd.Rn|apply Kd.Rw); exact HO_6.out) hb); have n1_ := Az.mk (Kd.Rb (Kd.R_elderB (by (with_reducible repeat first|apply Kd.Ra|apply Kd.Rn|apply Kd.Rw); exact HO_19.out) gb431 (Nat.le_of_eq hg.symm)) hb); have n2_ := Az.mk (bS (by repeat first|exact HB.out|apply bA|apply bN|apply bD) hb); have n3_ := Az.mk (hbox); have n4_ := Az.mk ((by rw [hg]; exact (bZ (by repeat first|exact HB.out|apply bA|apply bN|apply bD)) : w.heap.size ≤ gb431)); have n5_ := Az.mk ((by rw [hg]; exact (bZ (by repeat first|exact HB.out|apply bA|apply bN|apply bD)) : w.heap.size ≤ gb431)); clear HO_6; clear HO_19; clear HB; have HO_6 := n0_; have HO_19 := n1_; have HB := n2_; have BK431 := n3_; have GW431 := n4_; have GE431 := n5_; clear n0_ n1_ n2_ n3_ n4_ n5_; clear hb hbox hg; have hcz17_0 : w16.cell? ⟨gb431, 0, none⟩ = some (.string (⟨#[]⟩ : ByteArray)) := (blk_cell BK431.out 0).trans rfl; have hcz17_1 : w16.cell? ⟨gb431, 1, none⟩ = some (.int .i64 0) := (blk_cell BK431.out 1).trans rfl; have hfz17_0 := blk_frozen BK431.out 0; have hfz17_1 := blk_frozen BK431.out 1; obtain ⟨Ao18, co18, eo18⟩ := Kd.R_slice HO_6.out; subst eo18) | (go_at_call 57; (with_reducible refine (impl_alive.calls k1 _ _ t427 (wrap64 (x21_1 - 1)) t432 _ ?side1 ?side2 A10.out).mono ?_); (case side1 => refine (Kd.R_reads' (e := 31) (base := w.heap.size) (ok := fun k_ => True) (n := t427.length) (c := co18) ?_).2.2; exact (by (with_reducible repeat first|apply Kd.Ra|apply Kd.Rn|apply Kd.Rw); exact (Kd.R_mono (Kd.R_far (p := ⟨gb431, 1, none⟩) (Kd.R_far (p := ⟨gb431, 0, none⟩) (Kd.R_types HO_6.out BK431.out (by decide)) (fun _ hk => hk.2) (.string ((rd_T55 t422 x21_1).f0))) (fun _ hk => hk.2) (.int .i64 ((rd_T55 t422 x21_1).f1))) (fun _ h_ => h_.1)))); (case side2 => exact (Kd.R_reads' HO_6.out).2.1); rintro e w19 ⟨v433, rfl, ho0, hb⟩; have n0_ := Az.mk (Kd.Rb (by (with_reducible repeat first|apply Kd.Ra|apply Kd.Rn|apply Kd.Rw); exact (Kd.R_mono (Kd.R_far (p := ⟨gb431, 1, none⟩) (Kd.R_far (p := ⟨gb431, 0, none⟩) (Kd.R_types HO_6.out BK431.out (by decide)) (fun _ hk => hk.2) (.string ((rd_T55 t422 x21_1).f0))) (fun _ hk => hk.2) (.int .i64 ((rd_T55 t422 x21_1).f1))) (fun _ h_ => h_.1))) hb); have n1_ := Az.mk (Kd.Rb (by (with_reducible repeat first|apply Kd.Ra|apply Kd.Rn|apply Kd.Rw); exact (Kd.R_mono (Kd.R_far (p := ⟨gb431, 1, none⟩) (Kd.R_far (p := ⟨gb431, 0, none⟩) (Kd.R_mono HO_19.out (fun k_ hk => (⟨hk, hk.2⟩ : _ ∧ k_ ≠ gb431))) (fun _ hk => hk.2) (.string ((rd_T55 t422 x21_1).f0))) (fun _ hk => hk.2) (.int .i64 ((rd_T55 t422 x21_1).f1))) (fun _ h_ => h_.1))) hb); have n2_ := Az.mk (Kd.R_lower ho0 (bZ (by repeat (first | (with_reducible first|exact HB.out|apply bA|apply bN|apply bD | refine below_set ?_ GE431.out) | exact HB.out)))); have n3_ := Az.mk (blk_below (g := gb431) (o := .cells #[.string ((rd_T55 t422 x21_1).f0), .int .i64 ((rd_T55 t422 x21_1).f1)] 55 (0, 0)) (by (with_reducible repeat first|refine blN ?_ _|refine bl1 ?_|refine blA ?_ _); refine blk_put (cs := #[.string ((rd_T55 t422 x21_1).f0), .int .i64 0]) ?_ 1 _ rfl; (with_reducible repeat first|refine blN ?_ _|refine bl1 ?_|refine blA ?_ _); refine blk_put (cs := #[.string (⟨#[]⟩ : ByteArray), .int .i64 0]) ?_ 0 _ rfl; (with_reducible repeat first|refine blN ?_ _|refine bl1 ?_|refine blA ?_ _); exact BK431.out) hb); have n4_ := Az.mk (bS (by repeat (first | (with_reducible first|exact HB.out|apply bA|apply bN|apply bD | refine below_set ?_ GE431.out) | exact HB.out)) hb); clear HO_6; clear HO_19; clear BK431; clear HB; have HO_6 := n0_; have HO_19 := n1_; have HO434 := n2_; have BK431 := n3_; have HB := n4_; clear n0_ n1_ n2_ n3_ n4_; (try clear hb); (try clear hb2); (try clear hk); (try clear hi); (try clear ho0); have hcz20_0 : w19.cell? ⟨gb431, 0, none⟩ = some (.string ((rd_T55 t422 x21_1).f0)) := (blk_cell BK431.out 0).trans rfl; have hcz20_1 : w19.cell? ⟨gb431, 1, none⟩ = some (.int .i64 ((rd_T55 t422 x21_1).f1)) := (blk_cell BK431.out 1).trans rfl; have hfz20_0 := blk_frozen BK431.out 0; have hfz20_1 := blk_frozen BK431.out 1; obtain ⟨Ao21, co21, eo21⟩ := Kd.R_slice HO434.out; subst eo21; have p435 : 0 ≤ ((ji12) : Int) := of_decide_eq_true (by first|(with_reducible assumption)|assumption); have q435 : (ji12) < (t432.length : Int) := of_decide_eq_true (by first|(with_reducible assumption)|assumption); obtain ⟨ad435, e435, hx435_0⟩ := Kd.at_int (Kd.R_reads' HO434.out).2.2 (ji12) p435 q435; cases e435; replace p435 := eq_true p435; replace q435 := eq_true q435)))
          go_roundg k1
          case measure => have := HK1.out; omega
          case rel => exact ⟨(wrap64 (x21_1 + 1)), (by first | rfl | (simp; done) | (simp [*]; done)), H', ⟨by have := HK1.out; omega⟩, ⟨by (with_reducible repeat first|apply Kd.Ra|apply Kd.Rn|apply Kd.Rw); exact HO_6.out⟩, ⟨by (with_reducible repeat first|apply Kd.Ra|apply Kd.Rn|apply Kd.Rw); exact Kd.R_mono HO_19.out (fun _ hk => trivial)⟩, ⟨by repeat (first | (with_reducible first|exact HB.out|apply bA|apply bN|apply bD | refine below_set ?_ GE431.out) | exact HB.out)⟩⟩
         ·rw [if_neg c15] at H
          have c15b0 : ((rd t432 (ji12)) == ((rd_T55 t422 x21_1).f1)) = false := beq_eq_false_iff_ne.mpr c15
          have c15b1 : ((rd t432 (ji12)) != ((rd_T55 t422 x21_1).f1)) = true := bne_iff_ne.mpr c15
          obtain rfl := Option.some.inj H
          have p430 : 0 ≤ (x21_1 : Int) := of_decide_eq_true (by first|(with_reducible assumption)|assumption)
          have q430 : x21_1 < (t422.length : Int) := of_decide_eq_true (by first|(with_reducible assumption)|assumption)
          obtain ⟨ad430, e430, hx430_0, hx430_1⟩ := at_T55 (Kd.R_reads' HO_19.out).2.2 x21_1 p430 q430
          cases e430
          replace p430 := eq_true p430
          replace q430 := eq_true q430
          go_wp2_with (first | ((with_reducible refine gate_dst (N := 8) rfl ?_); (try (refine gate_guard (by rfl) ?_; dsimp only)); refine box_event ?hg (N := 8) ?hd (cs := #[.string (⟨#[]⟩ : ByteArray), .int .i64 0]) (t := 55) ?hr ?_; (case hd => rfl); (case hg => rfl); (case hr => first | (go_simp; done) | (go_simp; rfl)); intro gb431 hg w22 hbox hb; have n0_ := Az.mk (Kd.Rb (by (with_reducible repeat first|apply Kd.Ra|apply Kd.Rn|apply Kd.Rw); exact HO_6.out) hb); have n1_ := Az.mk (Kd.Rb (Kd.R_elderB (by (with_reducible repeat first|apply Kd.Ra|apply Kd.Rn|apply Kd.Rw); exact HO_19.out) gb431 (Nat.le_of_eq hg.symm)) hb); have n2_ := Az.mk (bS (by repeat first|exact HB.out|apply bA|apply bN|apply bD) hb); have n3_ := Az.mk (hbox); have n4_ := Az.mk ((by rw [hg]; exact (bZ (by repeat first|exact HB.out|apply bA|apply bN|apply bD)) : w.heap.size ≤ gb431)); have n5_ := Az.mk ((by rw [hg]; exact (bZ (by repeat first|exact HB.out|apply bA|apply bN|apply bD)) : w.heap.size ≤ gb431)); clear HO_6; clear HO_19; clear HB; have HO_6 := n0_; have HO_19 := n1_; have HB := n2_; have BK431 := n3_; have GW431 := n4_; have GE431 := n5_; clear n0_ n1_ n2_ n3_ n4_ n5_; clear hb hbox hg; have hcz23_0 : w22.cell? ⟨gb431, 0, none⟩ = some (.string (⟨#[]⟩ : ByteArray)) := (blk_cell BK431.out 0).trans rfl; have hcz23_1 : w22.cell? ⟨gb431, 1, none⟩ = some (.int .i64 0) := (blk_cell BK431.out 1).trans rfl; have hfz23_0 := blk_frozen BK431.out 0; have hfz23_1 := blk_frozen BK431.out 1; obtain ⟨Ao24, co24, eo24⟩ := Kd.R_slice HO_6.out; subst eo24) | (go_at_call 57; (with_reducible refine (impl_alive.calls k1 _ _ t427 (wrap64 (x21_1 - 1)) t432 _ ?side1 ?side2 A10.out).mono ?_); (case side1 => refine (Kd.R_reads' (e := 31) (base := w.heap.size) (ok := fun k_ => True) (n := t427.length) (c := co24) ?_).2.2; exact (by (with_reducible repeat first|apply Kd.Ra|apply Kd.Rn|apply Kd.Rw); exact (Kd.R_mono (Kd.R_far (p := ⟨gb431, 1, none⟩) (Kd.R_far (p := ⟨gb431, 0, none⟩) (Kd.R_types HO_6.out BK431.out (by decide)) (fun _ hk => hk.2) (.string ((rd_T55 t422 x21_1).f0))) (fun _ hk => hk.2) (.int .i64 ((rd_T55 t422 x21_1).f1))) (fun _ h_ => h_.1)))); (case side2 => exact (Kd.R_reads' HO_6.out).2.1); rintro e w25 ⟨v433, rfl, ho0, hb⟩; have n0_ := Az.mk (Kd.Rb (by (with_reducible repeat first|apply Kd.Ra|apply Kd.Rn|apply Kd.Rw); exact (Kd.R_mono (Kd.R_far (p := ⟨gb431, 1, none⟩) (Kd.R_far (p := ⟨gb431, 0, none⟩) (Kd.R_types HO_6.out BK431.out (by decide)) (fun _ hk => hk.2) (.string ((rd_T55 t422 x21_1).f0))) (fun _ hk => hk.2) (.int .i64 ((rd_T55 t422 x21_1).f1))) (fun _ h_ => h_.1))) hb); have n1_ := Az.mk (Kd.Rb (by (with_reducible repeat first|apply Kd.Ra|apply Kd.Rn|apply Kd.Rw); exact (Kd.R_mono (Kd.R_far (p := ⟨gb431, 1, none⟩) (Kd.R_far (p := ⟨gb431, 0, none⟩) (Kd.R_mono HO_19.out (fun k_ hk => (⟨hk, hk.2⟩ : _ ∧ k_ ≠ gb431))) (fun _ hk => hk.2) (.string ((rd_T55 t422 x21_1).f0))) (fun _ hk => hk.2) (.int .i64 ((rd_T55 t422 x21_1).f1))) (fun _ h_ => h_.1))) hb); have n2_ := Az.mk (Kd.R_lower ho0 (bZ (by repeat (first | (with_reducible first|exact HB.out|apply bA|apply bN|apply bD | refine below_set ?_ GE431.out) | exact HB.out)))); have n3_ := Az.mk (blk_below (g := gb431) (o := .cells #[.string ((rd_T55 t422 x21_1).f0), .int .i64 ((rd_T55 t422 x21_1).f1)] 55 (0, 0)) (by (with_reducible repeat first|refine blN ?_ _|refine bl1 ?_|refine blA ?_ _); refine blk_put (cs := #[.string ((rd_T55 t422 x21_1).f0), .int .i64 0]) ?_ 1 _ rfl; (with_reducible repeat first|refine blN ?_ _|refine bl1 ?_|refine blA ?_ _); refine blk_put (cs := #[.string (⟨#[]⟩ : ByteArray), .int .i64 0]) ?_ 0 _ rfl; (with_reducible repeat first|refine blN ?_ _|refine bl1 ?_|refine blA ?_ _); exact BK431.out) hb); have n4_ := Az.mk (bS (by repeat (first | (with_reducible first|exact HB.out|apply bA|apply bN|apply bD | refine below_set ?_ GE431.out) | exact HB.out)) hb); clear HO_6; clear HO_19; clear BK431; clear HB; have HO_6 := n0_; have HO_19 := n1_; have HO434 := n2_; have BK431 := n3_; have HB := n4_; clear n0_ n1_ n2_ n3_ n4_; (try clear hb); (try clear hb2); (try clear hk); (try clear hi); (try clear ho0); have hcz26_0 : w25.cell? ⟨gb431, 0, none⟩ = some (.string ((rd_T55 t422 x21_1).f0)) := (blk_cell BK431.out 0).trans rfl; have hcz26_1 : w25.cell? ⟨gb431, 1, none⟩ = some (.int .i64 ((rd_T55 t422 x21_1).f1)) := (blk_cell BK431.out 1).trans rfl; have hfz26_0 := blk_frozen BK431.out 0; have hfz26_1 := blk_frozen BK431.out 1; obtain ⟨Ao27, co27, eo27⟩ := Kd.R_slice HO434.out; subst eo27; have p435 : 0 ≤ ((ji12) : Int) := of_decide_eq_true (by first|(with_reducible assumption)|assumption); have q435 : (ji12) < (t432.length : Int) := of_decide_eq_true (by first|(with_reducible assumption)|assumption); obtain ⟨ad435, e435, hx435_0⟩ := Kd.at_int (Kd.R_reads' HO434.out).2.2 (ji12) p435 q435; cases e435; replace p435 := eq_true p435; replace q435 := eq_true q435))
          repeat (go_quiet (first | ((with_reducible refine gate_dst (N := 8) rfl ?_); (try (refine gate_guard (by rfl) ?_; dsimp only)); refine box_event ?hg (N := 8) ?hd (cs := #[.string (⟨#[]⟩ : ByteArray), .int .i64 0]) (t := 55) ?hr ?_; (case hd => rfl); (case hg => rfl); (case hr => first | (go_simp; done) | (go_simp; rfl)); intro gb431 hg w22 hbox hb; have n0_ := Az.mk (Kd.Rb (by (with_reducible repeat first|apply Kd.Ra|apply Kd.Rn|apply Kd.Rw); exact HO_6.out) hb); have n1_ := Az.mk (Kd.Rb (Kd.R_elderB (by (with_reducible repeat first|apply Kd.Ra|apply Kd.Rn|apply Kd.Rw); exact HO_19.out) gb431 (Nat.le_of_eq hg.symm)) hb); have n2_ := Az.mk (bS (by repeat first|exact HB.out|apply bA|apply bN|apply bD) hb); have n3_ := Az.mk (hbox); have n4_ := Az.mk ((by rw [hg]; exact (bZ (by repeat first|exact HB.out|apply bA|apply bN|apply bD)) : w.heap.size ≤ gb431)); have n5_ := Az.mk ((by rw [hg]; exact (bZ (by repeat first|exact HB.out|apply bA|apply bN|apply bD)) : w.heap.size ≤ gb431)); clear HO_6; clear HO_19; clear HB; have HO_6 := n0_; have HO_19 := n1_; have HB := n2_; have BK431 := n3_; have GW431 := n4_; have GE431 := n5_; clear n0_ n1_ n2_ n3_ n4_ n5_; clear hb hbox hg; have hcz23_0 : w22.cell? ⟨gb431, 0, none⟩ = some (.string (⟨#[]⟩ : ByteArray)) := (blk_cell BK431.out 0).trans rfl; have hcz23_1 : w22.cell? ⟨gb431, 1, none⟩ = some (.int .i64 0) := (blk_cell BK431.out 1).trans rfl; have hfz23_0 := blk_frozen BK431.out 0; have hfz23_1 := blk_frozen BK431.out 1; obtain ⟨Ao24, co24, eo24⟩ := Kd.R_slice HO_6.out; subst eo24) | (go_at_call 57; (with_reducible refine (impl_alive.calls k1 _ _ t427 (wrap64 (x21_1 - 1)) t432 _ ?side1 ?side2 A10.out).mono ?_); (case side1 => refine (Kd.R_reads' (e := 31) (base := w.heap.size) (ok := fun k_ => True) (n := t427.length) (c := co24) ?_).2.2; exact (by (with_reducible repeat first|apply Kd.Ra|apply Kd.Rn|apply Kd.Rw); exact (Kd.R_mono (Kd.R_far (p := ⟨gb431, 1, none⟩) (Kd.R_far (p := ⟨gb431, 0, none⟩) (Kd.R_types HO_6.out BK431.out (by decide)) (fun _ hk => hk.2) (.string ((rd_T55 t422 x21_1).f0))) (fun _ hk => hk.2) (.int .i64 ((rd_T55 t422 x21_1).f1))) (fun _ h_ => h_.1)))); (case side2 => exact (Kd.R_reads' HO_6.out).2.1); rintro e w25 ⟨v433, rfl, ho0, hb⟩; have n0_ := Az.mk (Kd.Rb (by (with_reducible repeat first|apply Kd.Ra|apply Kd.Rn|apply Kd.Rw); exact (Kd.R_mono (Kd.R_far (p := ⟨gb431, 1, none⟩) (Kd.R_far (p := ⟨gb431, 0, none⟩) (Kd.R_types HO_6.out BK431.out (by decide)) (fun _ hk => hk.2) (.string ((rd_T55 t422 x21_1).f0))) (fun _ hk => hk.2) (.int .i64 ((rd_T55 t422 x21_1).f1))) (fun _ h_ => h_.1))) hb); have n1_ := Az.mk (Kd.Rb (by (with_reducible repeat first|apply Kd.Ra|apply Kd.Rn|apply Kd.Rw); exact (Kd.R_mono (Kd.R_far (p := ⟨gb431, 1, none⟩) (Kd.R_far (p := ⟨gb431, 0, none⟩) (Kd.R_mono HO_19.out (fun k_ hk => (⟨hk, hk.2⟩ : _ ∧ k_ ≠ gb431))) (fun _ hk => hk.2) (.string ((rd_T55 t422 x21_1).f0))) (fun _ hk => hk.2) (.int .i64 ((rd_T55 t422 x21_1).f1))) (fun _ h_ => h_.1))) hb); have n2_ := Az.mk (Kd.R_lower ho0 (bZ (by repeat (first | (with_reducible first|exact HB.out|apply bA|apply bN|apply bD | refine below_set ?_ GE431.out) | exact HB.out)))); have n3_ := Az.mk (blk_below (g := gb431) (o := .cells #[.string ((rd_T55 t422 x21_1).f0), .int .i64 ((rd_T55 t422 x21_1).f1)] 55 (0, 0)) (by (with_reducible repeat first|refine blN ?_ _|refine bl1 ?_|refine blA ?_ _); refine blk_put (cs := #[.string ((rd_T55 t422 x21_1).f0), .int .i64 0]) ?_ 1 _ rfl; (with_reducible repeat first|refine blN ?_ _|refine bl1 ?_|refine blA ?_ _); refine blk_put (cs := #[.string (⟨#[]⟩ : ByteArray), .int .i64 0]) ?_ 0 _ rfl; (with_reducible repeat first|refine blN ?_ _|refine bl1 ?_|refine blA ?_ _); exact BK431.out) hb); have n4_ := Az.mk (bS (by repeat (first | (with_reducible first|exact HB.out|apply bA|apply bN|apply bD | refine below_set ?_ GE431.out) | exact HB.out)) hb); clear HO_6; clear HO_19; clear BK431; clear HB; have HO_6 := n0_; have HO_19 := n1_; have HO434 := n2_; have BK431 := n3_; have HB := n4_; clear n0_ n1_ n2_ n3_ n4_; (try clear hb); (try clear hb2); (try clear hk); (try clear hi); (try clear ho0); have hcz26_0 : w25.cell? ⟨gb431, 0, none⟩ = some (.string ((rd_T55 t422 x21_1).f0)) := (blk_cell BK431.out 0).trans rfl; have hcz26_1 : w25.cell? ⟨gb431, 1, none⟩ = some (.int .i64 ((rd_T55 t422 x21_1).f1)) := (blk_cell BK431.out 1).trans rfl; have hfz26_0 := blk_frozen BK431.out 0; have hfz26_1 := blk_frozen BK431.out 1; obtain ⟨Ao27, co27, eo27⟩ := Kd.R_slice HO434.out; subst eo27; have p435 : 0 ≤ ((ji12) : Int) := of_decide_eq_true (by first|(with_reducible assumption)|assumption); have q435 : (ji12) < (t432.length : Int) := of_decide_eq_true (by first|(with_reducible assumption)|assumption); obtain ⟨ad435, e435, hx435_0⟩ := Kd.at_int (Kd.R_reads' HO434.out).2.2 (ji12) p435 q435; cases e435; replace p435 := eq_true p435; replace q435 := eq_true q435)); try go_wp2_with (first | ((with_reducible refine gate_dst (N := 8) rfl ?_); (try (refine gate_guard (by rfl) ?_; dsimp only)); refine box_event ?hg (N := 8) ?hd (cs := #[.string (⟨#[]⟩ : ByteArray), .int .i64 0]) (t := 55) ?hr ?_; (case hd => rfl); (case hg => rfl); (case hr => first | (go_simp; done) | (go_simp; rfl)); intro gb431 hg w22 hbox hb; have n0_ := Az.mk (Kd.Rb (by (with_reducible repeat first|apply Kd.Ra|apply Kd.Rn|apply Kd.Rw); exact HO_6.out) hb); have n1_ := Az.mk (Kd.Rb (Kd.R_elderB (by (with_reducible repeat first|apply Kd.Ra|apply Kd.Rn|apply Kd.Rw); exact HO_19.out) gb431 (Nat.le_of_eq hg.symm)) hb); have n2_ := Az.mk (bS (by repeat first|exact HB.out|apply bA|apply bN|apply bD) hb); have n3_ := Az.mk (hbox); have n4_ := Az.mk ((by rw [hg]; exact (bZ (by repeat first|exact HB.out|apply bA|apply bN|apply bD)) : w.heap.size ≤ gb431)); have n5_ := Az.mk ((by rw [hg]; exact (bZ (by repeat first|exact HB.out|apply bA|apply bN|apply bD)) : w.heap.size ≤ gb431)); clear HO_6; clear HO_19; clear HB; have HO_6 := n0_; have HO_19 := n1_; have HB := n2_; have BK431 := n3_; have GW431 := n4_; have GE431 := n5_; clear n0_ n1_ n2_ n3_ n4_ n5_; clear hb hbox hg; have hcz23_0 : w22.cell? ⟨gb431, 0, none⟩ = some (.string (⟨#[]⟩ : ByteArray)) := (blk_cell BK431.out 0).trans rfl; have hcz23_1 : w22.cell? ⟨gb431, 1, none⟩ = some (.int .i64 0) := (blk_cell BK431.out 1).trans rfl; have hfz23_0 := blk_frozen BK431.out 0; have hfz23_1 := blk_frozen BK431.out 1; obtain ⟨Ao24, co24, eo24⟩ := Kd.R_slice HO_6.out; subst eo24) | (go_at_call 57; (with_reducible refine (impl_alive.calls k1 _ _ t427 (wrap64 (x21_1 - 1)) t432 _ ?side1 ?side2 A10.out).mono ?_); (case side1 => refine (Kd.R_reads' (e := 31) (base := w.heap.size) (ok := fun k_ => True) (n := t427.length) (c := co24) ?_).2.2; exact (by (with_reducible repeat first|apply Kd.Ra|apply Kd.Rn|apply Kd.Rw); exact (Kd.R_mono (Kd.R_far (p := ⟨gb431, 1, none⟩) (Kd.R_far (p := ⟨gb431, 0, none⟩) (Kd.R_types HO_6.out BK431.out (by decide)) (fun _ hk => hk.2) (.string ((rd_T55 t422 x21_1).f0))) (fun _ hk => hk.2) (.int .i64 ((rd_T55 t422 x21_1).f1))) (fun _ h_ => h_.1)))); (case side2 => exact (Kd.R_reads' HO_6.out).2.1); rintro e w25 ⟨v433, rfl, ho0, hb⟩; have n0_ := Az.mk (Kd.Rb (by (with_reducible repeat first|apply Kd.Ra|apply Kd.Rn|apply Kd.Rw); exact (Kd.R_mono (Kd.R_far (p := ⟨gb431, 1, none⟩) (Kd.R_far (p := ⟨gb431, 0, none⟩) (Kd.R_types HO_6.out BK431.out (by decide)) (fun _ hk => hk.2) (.string ((rd_T55 t422 x21_1).f0))) (fun _ hk => hk.2) (.int .i64 ((rd_T55 t422 x21_1).f1))) (fun _ h_ => h_.1))) hb); have n1_ := Az.mk (Kd.Rb (by (with_reducible repeat first|apply Kd.Ra|apply Kd.Rn|apply Kd.Rw); exact (Kd.R_mono (Kd.R_far (p := ⟨gb431, 1, none⟩) (Kd.R_far (p := ⟨gb431, 0, none⟩) (Kd.R_mono HO_19.out (fun k_ hk => (⟨hk, hk.2⟩ : _ ∧ k_ ≠ gb431))) (fun _ hk => hk.2) (.string ((rd_T55 t422 x21_1).f0))) (fun _ hk => hk.2) (.int .i64 ((rd_T55 t422 x21_1).f1))) (fun _ h_ => h_.1))) hb); have n2_ := Az.mk (Kd.R_lower ho0 (bZ (by repeat (first | (with_reducible first|exact HB.out|apply bA|apply bN|apply bD | refine below_set ?_ GE431.out) | exact HB.out)))); have n3_ := Az.mk (blk_below (g := gb431) (o := .cells #[.string ((rd_T55 t422 x21_1).f0), .int .i64 ((rd_T55 t422 x21_1).f1)] 55 (0, 0)) (by (with_reducible repeat first|refine blN ?_ _|refine bl1 ?_|refine blA ?_ _); refine blk_put (cs := #[.string ((rd_T55 t422 x21_1).f0), .int .i64 0]) ?_ 1 _ rfl; (with_reducible repeat first|refine blN ?_ _|refine bl1 ?_|refine blA ?_ _); refine blk_put (cs := #[.string (⟨#[]⟩ : ByteArray), .int .i64 0]) ?_ 0 _ rfl; (with_reducible repeat first|refine blN ?_ _|refine bl1 ?_|refine blA ?_ _); exact BK431.out) hb); have n4_ := Az.mk (bS (by repeat (first | (with_reducible first|exact HB.out|apply bA|apply bN|apply bD | refine below_set ?_ GE431.out) | exact HB.out)) hb); clear HO_6; clear HO_19; clear BK431; clear HB; have HO_6 := n0_; have HO_19 := n1_; have HO434 := n2_; have BK431 := n3_; have HB := n4_; clear n0_ n1_ n2_ n3_ n4_; (try clear hb); (try clear hb2); (try clear hk); (try clear hi); (try clear ho0); have hcz26_0 : w25.cell? ⟨gb431, 0, none⟩ = some (.string ((rd_T55 t422 x21_1).f0)) := (blk_cell BK431.out 0).trans rfl; have hcz26_1 : w25.cell? ⟨gb431, 1, none⟩ = some (.int .i64 ((rd_T55 t422 x21_1).f1)) := (blk_cell BK431.out 1).trans rfl; have hfz26_0 := blk_frozen BK431.out 0; have hfz26_1 := blk_frozen BK431.out 1; obtain ⟨Ao27, co27, eo27⟩ := Kd.R_slice HO434.out; subst eo27; have p435 : 0 ≤ ((ji12) : Int) := of_decide_eq_true (by first|(with_reducible assumption)|assumption); have q435 : (ji12) < (t432.length : Int) := of_decide_eq_true (by first|(with_reducible assumption)|assumption); obtain ⟨ad435, e435, hx435_0⟩ := Kd.at_int (Kd.R_reads' HO434.out).2.2 (ji12) p435 q435; cases e435; replace p435 := eq_true p435; replace q435 := eq_true q435)))
          go_ret
          exact ⟨by first | rfl | (simp [errW_none, errW_some] <;> rfl) | (simp only [← hji12]; first | rfl | (simp [errW_none, errW_some] <;> rfl)) | (simp [*, errW_none, errW_some] <;> rfl), by repeat (first | (with_reducible first|exact HB.out|apply bA|apply bN|apply bD | refine below_set ?_ GE431.out) | exact HB.out)⟩
        ·rw [if_neg c14] at H
         exact absurd H (by simp)
       ·rw [if_neg c13] at H
        exact absurd H (by simp)
      ·rw [if_neg c11] at H
       have c11b0 : (((rd_T55 t422 x21_1).f0).toList == ([45] : List UInt8)) = false := beq_eq_false_iff_ne.mpr c11
       have c11b1 : (((rd_T55 t422 x21_1).f0).toList != ([45] : List UInt8)) = true := bne_iff_ne.mpr c11
       have H' := Az.mk H
       clear H
       have p430 : 0 ≤ (x21_1 : Int) := of_decide_eq_true (by first|(with_reducible assumption)|assumption)
       have q430 : x21_1 < (t422.length : Int) := of_decide_eq_true (by first|(with_reducible assumption)|assumption)
       obtain ⟨ad430, e430, hx430_0, hx430_1⟩ := at_T55 (Kd.R_reads' HO_19.out).2.2 x21_1 p430 q430
       cases e430
       replace p430 := eq_true p430
       replace q430 := eq_true q430
       go_wp2_with (first | ((with_reducible refine gate_dst (N := 8) rfl ?_); (try (refine gate_guard (by rfl) ?_; dsimp only)); refine box_event ?hg (N := 8) ?hd (cs := #[.string (⟨#[]⟩ : ByteArray), .int .i64 0]) (t := 55) ?hr ?_; (case hd => rfl); (case hg => rfl); (case hr => first | (go_simp; done) | (go_simp; rfl)); intro gb431 hg w28 hbox hb; have n0_ := Az.mk (Kd.Rb (by (with_reducible repeat first|apply Kd.Ra|apply Kd.Rn|apply Kd.Rw); exact HO_6.out) hb); have n1_ := Az.mk (Kd.Rb (Kd.R_elderB (by (with_reducible repeat first|apply Kd.Ra|apply Kd.Rn|apply Kd.Rw); exact HO_19.out) gb431 (Nat.le_of_eq hg.symm)) hb); have n2_ := Az.mk (bS (by repeat first|exact HB.out|apply bA|apply bN|apply bD) hb); have n3_ := Az.mk (hbox); have n4_ := Az.mk ((by rw [hg]; exact (bZ (by repeat first|exact HB.out|apply bA|apply bN|apply bD)) : w.heap.size ≤ gb431)); have n5_ := Az.mk ((by rw [hg]; exact (bZ (by repeat first|exact HB.out|apply bA|apply bN|apply bD)) : w.heap.size ≤ gb431)); clear HO_6; clear HO_19; clear HB; have HO_6 := n0_; have HO_19 := n1_; have HB := n2_; have BK431 := n3_; have GW431 := n4_; have GE431 := n5_; clear n0_ n1_ n2_ n3_ n4_ n5_; clear hb hbox hg; have hcz29_0 : w28.cell? ⟨gb431, 0, none⟩ = some (.string (⟨#[]⟩ : ByteArray)) := (blk_cell BK431.out 0).trans rfl; have hcz29_1 : w28.cell? ⟨gb431, 1, none⟩ = some (.int .i64 0) := (blk_cell BK431.out 1).trans rfl; have hfz29_0 := blk_frozen BK431.out 0; have hfz29_1 := blk_frozen BK431.out 1; obtain ⟨Ao30, co30, eo30⟩ := Kd.R_slice HO_6.out; subst eo30) | (go_at_call 57; (with_reducible refine (impl_alive.calls k1 _ _ t427 (wrap64 (x21_1 - 1)) t432 _ ?side1 ?side2 A10.out).mono ?_); (case side1 => refine (Kd.R_reads' (e := 31) (base := w.heap.size) (ok := fun k_ => True) (n := t427.length) (c := co30) ?_).2.2; exact (by (with_reducible repeat first|apply Kd.Ra|apply Kd.Rn|apply Kd.Rw); exact (Kd.R_mono (Kd.R_far (p := ⟨gb431, 1, none⟩) (Kd.R_far (p := ⟨gb431, 0, none⟩) (Kd.R_types HO_6.out BK431.out (by decide)) (fun _ hk => hk.2) (.string ((rd_T55 t422 x21_1).f0))) (fun _ hk => hk.2) (.int .i64 ((rd_T55 t422 x21_1).f1))) (fun _ h_ => h_.1)))); (case side2 => exact (Kd.R_reads' HO_6.out).2.1); rintro e w31 ⟨v433, rfl, ho0, hb⟩; have n0_ := Az.mk (Kd.Rb (by (with_reducible repeat first|apply Kd.Ra|apply Kd.Rn|apply Kd.Rw); exact (Kd.R_mono (Kd.R_far (p := ⟨gb431, 1, none⟩) (Kd.R_far (p := ⟨gb431, 0, none⟩) (Kd.R_types HO_6.out BK431.out (by decide)) (fun _ hk => hk.2) (.string ((rd_T55 t422 x21_1).f0))) (fun _ hk => hk.2) (.int .i64 ((rd_T55 t422 x21_1).f1))) (fun _ h_ => h_.1))) hb); have n1_ := Az.mk (Kd.Rb (by (with_reducible repeat first|apply Kd.Ra|apply Kd.Rn|apply Kd.Rw); exact (Kd.R_mono (Kd.R_far (p := ⟨gb431, 1, none⟩) (Kd.R_far (p := ⟨gb431, 0, none⟩) (Kd.R_mono HO_19.out (fun k_ hk => (⟨hk, hk.2⟩ : _ ∧ k_ ≠ gb431))) (fun _ hk => hk.2) (.string ((rd_T55 t422 x21_1).f0))) (fun _ hk => hk.2) (.int .i64 ((rd_T55 t422 x21_1).f1))) (fun _ h_ => h_.1))) hb); have n2_ := Az.mk (Kd.R_lower ho0 (bZ (by repeat (first | (with_reducible first|exact HB.out|apply bA|apply bN|apply bD | refine below_set ?_ GE431.out) | exact HB.out)))); have n3_ := Az.mk (blk_below (g := gb431) (o := .cells #[.string ((rd_T55 t422 x21_1).f0), .int .i64 ((rd_T55 t422 x21_1).f1)] 55 (0, 0)) (by (with_reducible repeat first|refine blN ?_ _|refine bl1 ?_|refine blA ?_ _); refine blk_put (cs := #[.string ((rd_T55 t422 x21_1).f0), .int .i64 0]) ?_ 1 _ rfl; (with_reducible repeat first|refine blN ?_ _|refine bl1 ?_|refine blA ?_ _); refine blk_put (cs := #[.string (⟨#[]⟩ : ByteArray), .int .i64 0]) ?_ 0 _ rfl; (with_reducible repeat first|refine blN ?_ _|refine bl1 ?_|refine blA ?_ _); exact BK431.out) hb); have n4_ := Az.mk (bS (by repeat (first | (with_reducible first|exact HB.out|apply bA|apply bN|apply bD | refine below_set ?_ GE431.out) | exact HB.out)) hb); clear HO_6; clear HO_19; clear BK431; clear HB; have HO_6 := n0_; have HO_19 := n1_; have HO434 := n2_; have BK431 := n3_; have HB := n4_; clear n0_ n1_ n2_ n3_ n4_; (try clear hb); (try clear hb2); (try clear hk); (try clear hi); (try clear ho0); have hcz32_0 : w31.cell? ⟨gb431, 0, none⟩ = some (.string ((rd_T55 t422 x21_1).f0)) := (blk_cell BK431.out 0).trans rfl; have hcz32_1 : w31.cell? ⟨gb431, 1, none⟩ = some (.int .i64 ((rd_T55 t422 x21_1).f1)) := (blk_cell BK431.out 1).trans rfl; have hfz32_0 := blk_frozen BK431.out 0; have hfz32_1 := blk_frozen BK431.out 1))
       repeat (go_quiet (first | ((with_reducible refine gate_dst (N := 8) rfl ?_); (try (refine gate_guard (by rfl) ?_; dsimp only)); refine box_event ?hg (N := 8) ?hd (cs := #[.string (⟨#[]⟩ : ByteArray), .int .i64 0]) (t := 55) ?hr ?_; (case hd => rfl); (case hg => rfl); (case hr => first | (go_simp; done) | (go_simp; rfl)); intro gb431 hg w28 hbox hb; have n0_ := Az.mk (Kd.Rb (by (with_reducible repeat first|apply Kd.Ra|apply Kd.Rn|apply Kd.Rw); exact HO_6.out) hb); have n1_ := Az.mk (Kd.Rb (Kd.R_elderB (by (with_reducible repeat first|apply Kd.Ra|apply Kd.Rn|apply Kd.Rw); exact HO_19.out) gb431 (Nat.le_of_eq hg.symm)) hb); have n2_ := Az.mk (bS (by repeat first|exact HB.out|apply bA|apply bN|apply bD) hb); have n3_ := Az.mk (hbox); have n4_ := Az.mk ((by rw [hg]; exact (bZ (by repeat first|exact HB.out|apply bA|apply bN|apply bD)) : w.heap.size ≤ gb431)); have n5_ := Az.mk ((by rw [hg]; exact (bZ (by repeat first|exact HB.out|apply bA|apply bN|apply bD)) : w.heap.size ≤ gb431)); clear HO_6; clear HO_19; clear HB; have HO_6 := n0_; have HO_19 := n1_; have HB := n2_; have BK431 := n3_; have GW431 := n4_; have GE431 := n5_; clear n0_ n1_ n2_ n3_ n4_ n5_; clear hb hbox hg; have hcz29_0 : w28.cell? ⟨gb431, 0, none⟩ = some (.string (⟨#[]⟩ : ByteArray)) := (blk_cell BK431.out 0).trans rfl; have hcz29_1 : w28.cell? ⟨gb431, 1, none⟩ = some (.int .i64 0) := (blk_cell BK431.out 1).trans rfl; have hfz29_0 := blk_frozen BK431.out 0; have hfz29_1 := blk_frozen BK431.out 1; obtain ⟨Ao30, co30, eo30⟩ := Kd.R_slice HO_6.out; subst eo30) | (go_at_call 57; (with_reducible refine (impl_alive.calls k1 _ _ t427 (wrap64 (x21_1 - 1)) t432 _ ?side1 ?side2 A10.out).mono ?_); (case side1 => refine (Kd.R_reads' (e := 31) (base := w.heap.size) (ok := fun k_ => True) (n := t427.length) (c := co30) ?_).2.2; exact (by (with_reducible repeat first|apply Kd.Ra|apply Kd.Rn|apply Kd.Rw); exact (Kd.R_mono (Kd.R_far (p := ⟨gb431, 1, none⟩) (Kd.R_far (p := ⟨gb431, 0, none⟩) (Kd.R_types HO_6.out BK431.out (by decide)) (fun _ hk => hk.2) (.string ((rd_T55 t422 x21_1).f0))) (fun _ hk => hk.2) (.int .i64 ((rd_T55 t422 x21_1).f1))) (fun _ h_ => h_.1)))); (case side2 => exact (Kd.R_reads' HO_6.out).2.1); rintro e w31 ⟨v433, rfl, ho0, hb⟩; have n0_ := Az.mk (Kd.Rb (by (with_reducible repeat first|apply Kd.Ra|apply Kd.Rn|apply Kd.Rw); exact (Kd.R_mono (Kd.R_far (p := ⟨gb431, 1, none⟩) (Kd.R_far (p := ⟨gb431, 0, none⟩) (Kd.R_types HO_6.out BK431.out (by decide)) (fun _ hk => hk.2) (.string ((rd_T55 t422 x21_1).f0))) (fun _ hk => hk.2) (.int .i64 ((rd_T55 t422 x21_1).f1))) (fun _ h_ => h_.1))) hb); have n1_ := Az.mk (Kd.Rb (by (with_reducible repeat first|apply Kd.Ra|apply Kd.Rn|apply Kd.Rw); exact (Kd.R_mono (Kd.R_far (p := ⟨gb431, 1, none⟩) (Kd.R_far (p := ⟨gb431, 0, none⟩) (Kd.R_mono HO_19.out (fun k_ hk => (⟨hk, hk.2⟩ : _ ∧ k_ ≠ gb431))) (fun _ hk => hk.2) (.string ((rd_T55 t422 x21_1).f0))) (fun _ hk => hk.2) (.int .i64 ((rd_T55 t422 x21_1).f1))) (fun _ h_ => h_.1))) hb); have n2_ := Az.mk (Kd.R_lower ho0 (bZ (by repeat (first | (with_reducible first|exact HB.out|apply bA|apply bN|apply bD | refine below_set ?_ GE431.out) | exact HB.out)))); have n3_ := Az.mk (blk_below (g := gb431) (o := .cells #[.string ((rd_T55 t422 x21_1).f0), .int .i64 ((rd_T55 t422 x21_1).f1)] 55 (0, 0)) (by (with_reducible repeat first|refine blN ?_ _|refine bl1 ?_|refine blA ?_ _); refine blk_put (cs := #[.string ((rd_T55 t422 x21_1).f0), .int .i64 0]) ?_ 1 _ rfl; (with_reducible repeat first|refine blN ?_ _|refine bl1 ?_|refine blA ?_ _); refine blk_put (cs := #[.string (⟨#[]⟩ : ByteArray), .int .i64 0]) ?_ 0 _ rfl; (with_reducible repeat first|refine blN ?_ _|refine bl1 ?_|refine blA ?_ _); exact BK431.out) hb); have n4_ := Az.mk (bS (by repeat (first | (with_reducible first|exact HB.out|apply bA|apply bN|apply bD | refine below_set ?_ GE431.out) | exact HB.out)) hb); clear HO_6; clear HO_19; clear BK431; clear HB; have HO_6 := n0_; have HO_19 := n1_; have HO434 := n2_; have BK431 := n3_; have HB := n4_; clear n0_ n1_ n2_ n3_ n4_; (try clear hb); (try clear hb2); (try clear hk); (try clear hi); (try clear ho0); have hcz32_0 : w31.cell? ⟨gb431, 0, none⟩ = some (.string ((rd_T55 t422 x21_1).f0)) := (blk_cell BK431.out 0).trans rfl; have hcz32_1 : w31.cell? ⟨gb431, 1, none⟩ = some (.int .i64 ((rd_T55 t422 x21_1).f1)) := (blk_cell BK431.out 1).trans rfl; have hfz32_0 := blk_frozen BK431.out 0; have hfz32_1 := blk_frozen BK431.out 1)); try go_wp2_with (first | ((with_reducible refine gate_dst (N := 8) rfl ?_); (try (refine gate_guard (by rfl) ?_; dsimp only)); refine box_event ?hg (N := 8) ?hd (cs := #[.string (⟨#[]⟩ : ByteArray), .int .i64 0]) (t := 55) ?hr ?_; (case hd => rfl); (case hg => rfl); (case hr => first | (go_simp; done) | (go_simp; rfl)); intro gb431 hg w28 hbox hb; have n0_ := Az.mk (Kd.Rb (by (with_reducible repeat first|apply Kd.Ra|apply Kd.Rn|apply Kd.Rw); exact HO_6.out) hb); have n1_ := Az.mk (Kd.Rb (Kd.R_elderB (by (with_reducible repeat first|apply Kd.Ra|apply Kd.Rn|apply Kd.Rw); exact HO_19.out) gb431 (Nat.le_of_eq hg.symm)) hb); have n2_ := Az.mk (bS (by repeat first|exact HB.out|apply bA|apply bN|apply bD) hb); have n3_ := Az.mk (hbox); have n4_ := Az.mk ((by rw [hg]; exact (bZ (by repeat first|exact HB.out|apply bA|apply bN|apply bD)) : w.heap.size ≤ gb431)); have n5_ := Az.mk ((by rw [hg]; exact (bZ (by repeat first|exact HB.out|apply bA|apply bN|apply bD)) : w.heap.size ≤ gb431)); clear HO_6; clear HO_19; clear HB; have HO_6 := n0_; have HO_19 := n1_; have HB := n2_; have BK431 := n3_; have GW431 := n4_; have GE431 := n5_; clear n0_ n1_ n2_ n3_ n4_ n5_; clear hb hbox hg; have hcz29_0 : w28.cell? ⟨gb431, 0, none⟩ = some (.string (⟨#[]⟩ : ByteArray)) := (blk_cell BK431.out 0).trans rfl; have hcz29_1 : w28.cell? ⟨gb431, 1, none⟩ = some (.int .i64 0) := (blk_cell BK431.out 1).trans rfl; have hfz29_0 := blk_frozen BK431.out 0; have hfz29_1 := blk_frozen BK431.out 1; obtain ⟨Ao30, co30, eo30⟩ := Kd.R_slice HO_6.out; subst eo30) | (go_at_call 57; (with_reducible refine (impl_alive.calls k1 _ _ t427 (wrap64 (x21_1 - 1)) t432 _ ?side1 ?side2 A10.out).mono ?_); (case side1 => refine (Kd.R_reads' (e := 31) (base := w.heap.size) (ok := fun k_ => True) (n := t427.length) (c := co30) ?_).2.2; exact (by (with_reducible repeat first|apply Kd.Ra|apply Kd.Rn|apply Kd.Rw); exact (Kd.R_mono (Kd.R_far (p := ⟨gb431, 1, none⟩) (Kd.R_far (p := ⟨gb431, 0, none⟩) (Kd.R_types HO_6.out BK431.out (by decide)) (fun _ hk => hk.2) (.string ((rd_T55 t422 x21_1).f0))) (fun _ hk => hk.2) (.int .i64 ((rd_T55 t422 x21_1).f1))) (fun _ h_ => h_.1)))); (case side2 => exact (Kd.R_reads' HO_6.out).2.1); rintro e w31 ⟨v433, rfl, ho0, hb⟩; have n0_ := Az.mk (Kd.Rb (by (with_reducible repeat first|apply Kd.Ra|apply Kd.Rn|apply Kd.Rw); exact (Kd.R_mono (Kd.R_far (p := ⟨gb431, 1, none⟩) (Kd.R_far (p := ⟨gb431, 0, none⟩) (Kd.R_types HO_6.out BK431.out (by decide)) (fun _ hk => hk.2) (.string ((rd_T55 t422 x21_1).f0))) (fun _ hk => hk.2) (.int .i64 ((rd_T55 t422 x21_1).f1))) (fun _ h_ => h_.1))) hb); have n1_ := Az.mk (Kd.Rb (by (with_reducible repeat first|apply Kd.Ra|apply Kd.Rn|apply Kd.Rw); exact (Kd.R_mono (Kd.R_far (p := ⟨gb431, 1, none⟩) (Kd.R_far (p := ⟨gb431, 0, none⟩) (Kd.R_mono HO_19.out (fun k_ hk => (⟨hk, hk.2⟩ : _ ∧ k_ ≠ gb431))) (fun _ hk => hk.2) (.string ((rd_T55 t422 x21_1).f0))) (fun _ hk => hk.2) (.int .i64 ((rd_T55 t422 x21_1).f1))) (fun _ h_ => h_.1))) hb); have n2_ := Az.mk (Kd.R_lower ho0 (bZ (by repeat (first | (with_reducible first|exact HB.out|apply bA|apply bN|apply bD | refine below_set ?_ GE431.out) | exact HB.out)))); have n3_ := Az.mk (blk_below (g := gb431) (o := .cells #[.string ((rd_T55 t422 x21_1).f0), .int .i64 ((rd_T55 t422 x21_1).f1)] 55 (0, 0)) (by (with_reducible repeat first|refine blN ?_ _|refine bl1 ?_|refine blA ?_ _); refine blk_put (cs := #[.string ((rd_T55 t422 x21_1).f0), .int .i64 0]) ?_ 1 _ rfl; (with_reducible repeat first|refine blN ?_ _|refine bl1 ?_|refine blA ?_ _); refine blk_put (cs := #[.string (⟨#[]⟩ : ByteArray), .int .i64 0]) ?_ 0 _ rfl; (with_reducible repeat first|refine blN ?_ _|refine bl1 ?_|refine blA ?_ _); exact BK431.out) hb); have n4_ := Az.mk (bS (by repeat (first | (with_reducible first|exact HB.out|apply bA|apply bN|apply bD | refine below_set ?_ GE431.out) | exact HB.out)) hb); clear HO_6; clear HO_19; clear BK431; clear HB; have HO_6 := n0_; have HO_19 := n1_; have HO434 := n2_; have BK431 := n3_; have HB := n4_; clear n0_ n1_ n2_ n3_ n4_; (try clear hb); (try clear hb2); (try clear hk); (try clear hi); (try clear ho0); have hcz32_0 : w31.cell? ⟨gb431, 0, none⟩ = some (.string ((rd_T55 t422 x21_1).f0)) := (blk_cell BK431.out 0).trans rfl; have hcz32_1 : w31.cell? ⟨gb431, 1, none⟩ = some (.int .i64 ((rd_T55 t422 x21_1).f1)) := (blk_cell BK431.out 1).trans rfl; have hfz32_0 := blk_frozen BK431.out 0; have hfz32_1 := blk_frozen BK431.out 1)))
       go_roundg k1
       case measure => have := HK1.out; omega
       case rel => exact ⟨(wrap64 (x21_1 + 1)), (by first | rfl | (simp; done) | (simp [*]; done)), H', ⟨by have := HK1.out; omega⟩, ⟨by (with_reducible repeat first|apply Kd.Ra|apply Kd.Rn|apply Kd.Rw); exact HO_6.out⟩, ⟨by (with_reducible repeat first|apply Kd.Ra|apply Kd.Rn|apply Kd.Rw); exact Kd.R_mono HO_19.out (fun _ hk => trivial)⟩, ⟨by repeat (first | (with_reducible first|exact HB.out|apply bA|apply bN|apply bD | refine below_set ?_ GE431.out) | exact HB.out)⟩⟩
     ·rw [if_neg c9] at H
      exact absurd H (by simp)
    ·rw [if_neg c8] at H
     exact absurd H (by simp)
   ·rw [if_neg c7] at H
    have c7b0 : decide (x21_1 < (t422.length : Int)) = false := decide_eq_false c7
    clear c7
    obtain rfl := Option.some.inj H
    go_wp2
    repeat (go_quiet (fail); try go_wp2)
    go_ret
    exact ⟨by first | rfl | (simp [errW_none, errW_some] <;> rfl) | (simp [*, errW_none, errW_some] <;> rfl), by repeat (first | (with_reducible first|exact HB.out|apply bA|apply bN|apply bD) | exact HB.out)⟩
end Go.Proofs.YtndjbnkmhpbnpaaGreatDoor.Pr
namespace Go.Proofs.YtndjbnkmhpbnpaaGreatDoor.Pr
open Go.RowKit Go.Proofs.YtndjbnkmhpbnpaaGreatDoorW.PrintWords Go.Proofs.YtndjbnkmhpbnpaaGreatDoorW.PrintLast Go.Proofs.YtndjbnkmhpbnpaaGreatDoorW.PrintMore
theorem filter_last : ∀ (l : List Int) (n : Int), l.Pairwise (· < ·) → l.getLast? = some n → l.filter (fun y => y != n) = l.take (l.length - 1)
 | [], n, _, h => by simp at h
 | [a], n, _, h => by simp at h; subst h; simp
 | a :: b :: r, n, hp, h => by
  cases hp with
  | cons h1 h2 =>
   rw [List.getLast?_cons_cons] at h
   have hn : n ∈ b :: r := List.mem_of_getLast? h
   have hlt := h1 n hn
   rw [List.filter_cons_of_pos (by simp only [bne_iff_ne]; omega), filter_last (b :: r) n h2 h]
   simp
theorem last_rd {l : List Int} {n : Int} (h : l ≠ []) : rd l ((l.length : Int) - 1) = n ↔ l.getLast? = some n := by
 have hl : 0 < l.length := List.length_pos_iff.2 h
 rw [List.getLast?_eq_getElem?, show (l.length : Int) - 1 = ((l.length - 1 : Nat) : Int) by omega, rd_at (by omega), List.getElem?_eq_getElem (by omega)]
 simp
end Go.Proofs.YtndjbnkmhpbnpaaGreatDoor.Pr
namespace Go.Proofs.YtndjbnkmhpbnpaaGreatDoor.Pr
open Go.RowKit Go.Proofs.YtndjbnkmhpbnpaaGreatDoorW.PrintWords Go.Proofs.YtndjbnkmhpbnpaaGreatDoorW.PrintLast Go.Proofs.YtndjbnkmhpbnpaaGreatDoorW.PrintMore
set_option linter.unusedVariables false
set_option linter.unusedSimpArgs false
theorem elSame_go (xs : List Int) (hx : xs.length ≤ 1000000) : ∀ (d i : Nat), i + d = xs.length → Ev (fun k => laws_elSame.l0 k xs xs (xs.length : Int) (i : Int)) true
 | 0, i, hi => by
  refine Ev.step (fun k => laws_elSame.l0.eq_2 (k := k) ..) ?_
  simp only [if_neg (show ¬ ((i : Int) < (xs.length : Int)) by omega), beq_self_eq_true]
  exact Ev.now _
 | d + 1, i, hi => by
  have ih := elSame_go xs hx d (i + 1) (by omega)
  refine Ev.step (fun k => laws_elSame.l0.eq_2 (k := k) ..) ?_
  simp only [if_pos (show ((i : Int) < (xs.length : Int)) by omega), if_pos (show (0 : Int) ≤ (i : Int) by omega), if_true, wrap_up (show i ≤ 1000000000 by omega)]
  exact ih
theorem elSame_ev (xs : List Int) (hx : xs.length ≤ 1000000) : Ev (fun k => laws_elSame.f k xs xs) true := by
 unfold laws_elSame.f
 have : mn (xs.length : Int) (xs.length : Int) = (xs.length : Int) := by unfold mn; split <;> rfl
 rw [this]
 exact elSame_go xs hx xs.length 0 (Nat.zero_add _)
def Nest (o : List S55) (i : Nat) : Prop := ∀ (j : Nat) (e : S55) (m : Nat) (l : List Int), i ≤ j → o[j]? = some e → e.f0.toList = [45] → Good (o.take j) m l → l.getLast? = some e.f1
theorem nest_go {o : List S55} {m : Nat} {l : List Int} (g : Good o m l) (hl : o.length ≤ 1000000) (b : Bool) : ∀ (d i m' : Nat) (l' : List Int), i + d = o.length → Good (o.take i) m' l' →
  ∃ r, Ev (fun k => impl_AreNested.l0 k b (lvs o) o (o.length : Int) (i : Int)) r ∧ (r = true ↔ b = true ∧ Nest o i)
 | 0, i, m', l', hi, g' => by
  refine ⟨b, ?_, ⟨fun h => ⟨h, fun j e _ _ hj he _ _ => ?_⟩, fun h => h.1⟩⟩
  ·refine Ev.step (fun k => impl_AreNested.l0.eq_2 (k := k) ..) ?_
   simp only [if_neg (show ¬ ((i : Int) < (o.length : Int)) by omega)]
   exact Ev.now _
  ·have := (List.getElem?_eq_some_iff.1 he).1
   omega
 | d + 1, i, m', l', hi, g' => by
  obtain ⟨e, m1, l1, h1, h2, h3, h4, h5⟩ := g.step i (by omega)
  obtain ⟨rfl, rfl⟩ := g'.uniq h3
  have hal := g.alv_take i m' l' (by omega) g'
  have hm := g'.made
  have hll := g.lvs_length
  have hgm := g.made
  simp only [List.length_take] at hm
  have I : ∀ r, (Ev (fun k => if e.f0.toList = ([45] : List UInt8) then (if 0 ≤ (wrap64 ((l'.length : Int) - 1)) then (if (wrap64 ((l'.length : Int) - 1)) < (l'.length : Int) then (if (rd l' (wrap64 ((l'.length : Int) - 1))) = e.f1 then (impl_AreNested.l0 k b (lvs o) o (o.length : Int) ((i + 1 : Nat) : Int)) else (some false)) else (none)) else (none)) else (impl_AreNested.l0 k b (lvs o) o (o.length : Int) ((i + 1 : Nat) : Int))) r) →
    Ev (fun k => impl_AreNested.l0 k b (lvs o) o (o.length : Int) (i : Int)) r := by
   intro r h
   refine Ev.step (fun k => impl_AreNested.l0.eq_2 (k := k) ..) ?_
   simp only [if_pos (show ((i : Int) < (o.length : Int)) by omega), if_pos (show (0 : Int) ≤ (i : Int) by omega), rd62_at h1, wrap_up (show i ≤ 1000000000 by omega)]
   have A := alive_ev (lvs o) (wrap64 ((i : Int) - 1)) (by omega)
   rw [wrap_small (by omega) (by omega), hal] at A
   rw [wrap_small (n := (i : Int) - 1) (by omega) (by omega)]
   exact Ev.bind A h
  have hmore : (e.f0.toList = [45] → l'.getLast? = some e.f1) → (Nest o i ↔ Nest o (i + 1)) := by
   intro hx
   refine ⟨fun h j e' m' l' hj => h j e' m' l' (by omega), fun h j e' m'' l'' hj he' hs' g'' => ?_⟩
   by_cases hji : j = i
   ·subst hji
    rw [h1] at he'
    injection he' with he'
    subst he'
    obtain ⟨rfl, rfl⟩ := g''.uniq g'
    exact hx hs'
   ·exact h j e' m'' l'' (by omega) he' hs' g''
  rcases h5 with ⟨hs, hn, _, g2⟩ | ⟨hs, hn, g2⟩ | ⟨hs, hn, g2⟩
  ·obtain ⟨r, r2, r3⟩ := nest_go g hl b d (i + 1) _ _ (by omega) g2
   refine ⟨r, I r ?_, by rw [hmore (fun h => by rw [hs] at h; exact absurd h (by decide))]; exact r3⟩
   simp only [if_neg (show ¬ e.f0.toList = [45] by rw [hs]; decide)]
   exact r2
  ·obtain ⟨r, r2, r3⟩ := nest_go g hl b d (i + 1) _ _ (by omega) g2
   refine ⟨r, I r ?_, by rw [hmore (fun h => by rw [hs] at h; exact absurd h (by decide))]; exact r3⟩
   simp only [if_neg (show ¬ e.f0.toList = [45] by rw [hs]; decide)]
   exact r2
  ·have hne : l' ≠ [] := List.ne_nil_of_mem hn
   have hlp : 0 < l'.length := List.length_pos_iff.2 hne
   have hw : wrap64 ((l'.length : Int) - 1) = (l'.length : Int) - 1 := wrap_small (by omega) (by omega)
   by_cases hlast : l'.getLast? = some e.f1
   ·obtain ⟨r, r2, r3⟩ := nest_go g hl b d (i + 1) _ _ (by omega) g2
    refine ⟨r, I r ?_, by rw [hmore (fun _ => hlast)]; exact r3⟩
    simp only [if_pos hs, hw, if_pos (show 0 ≤ (l'.length : Int) - 1 by omega), if_pos (show (l'.length : Int) - 1 < (l'.length : Int) by omega), if_pos ((last_rd hne).2 hlast)]
    exact r2
   ·have hlast' : ¬ rd l' ((l'.length : Int) - 1) = e.f1 := fun h => hlast ((last_rd hne).1 h)
    refine ⟨false, I false ?_, ⟨fun h => by simp at h, fun h => absurd (h.2 i e m' l' (Nat.le_refl _) h1 hs g') hlast⟩⟩
    simp only [if_pos hs, hw, if_pos (show 0 ≤ (l'.length : Int) - 1 by omega), if_pos (show (l'.length : Int) - 1 < (l'.length : Int) by omega), if_neg hlast']
    exact Ev.now _
theorem nestedI_ev (a0 : ByteArray) (hs : a0.size ≤ 1048576) : ∃ r, Ev (fun k => impl_AreNested.f k a0) r ∧ (r = true ↔ (toldOf a0).2.2 = true ∧ Nest (toldOf a0).1 0) := by
 obtain ⟨m, l, g, hm, hl⟩ := told_good a0
 obtain ⟨r, h2, h3⟩ := nest_go g (by omega) (toldOf a0).2.2 _ 0 0 [] (Nat.zero_add _) .nil
 refine ⟨r, ?_, h3⟩
 unfold impl_AreNested.f
 simp only [told_f a0 hs, Option.bind_some, hm, lives_told g (show (toldOf a0).1.length ≤ 1000000 by omega)]
 exact h2
theorem first_row (t : Nat) : Gf (R0 t) = t := by
 have h1 := first_le (R0 t)
 have h2 := fresh_first (R0 t)
 rw [R0_length] at h1
 have h3 := h2.2
 rw [R0_mem] at h3
 omega
theorem above_row (t : Nat) : cntOf (R0 t) = t := by
 have h1 := getter_above.bound (R0 t) t (fun y hy => R0_mem.1 hy)
 have h2 := fresh_above (R0 t)
 have h3 := h2.2
 rw [R0_mem] at h3
 omega
theorem nest_cells {o : List S55} {m : Nat} {l : List Int} (g : Good o m l) (hn : Nest o 0) : (cst Gf o).1 = (cst cntOf o).1 ∧ (cst Gf o).2 = R0 l.length ∧ (cst cntOf o).2 = R0 l.length := by
 have key : ∀ (i : Nat) (m' : Nat) (l' : List Int), i ≤ o.length → Good (o.take i) m' l' → (cst Gf (o.take i)).1 = (cst cntOf (o.take i)).1 ∧ (cst Gf (o.take i)).2 = R0 l'.length ∧ (cst cntOf (o.take i)).2 = R0 l'.length := by
  intro i
  induction i with
  | zero =>
   intro m' l' _ g'
   obtain ⟨rfl, rfl⟩ := g'.uniq .nil
   exact ⟨rfl, rfl, rfl⟩
  | succ i ih =>
   intro m' l' hi g'
   obtain ⟨e, m1, l1, h1, h2, h3, h4, h5⟩ := g.step i (by omega)
   obtain ⟨i1, i2, i3⟩ := ih m1 l1 (by omega) h3
   rcases h5 with ⟨hs, hn', _, g2⟩ | ⟨hs, hn', g2⟩ | ⟨hs, hn', g2⟩
   ·obtain ⟨rfl, rfl⟩ := g'.uniq g2
    rw [h2, cst_snoc, cst_snoc, cstep_43 hs, cstep_43 hs, i1, i2, i3, first_row, above_row]
    dsimp only
    rw [List.length_append, List.length_singleton, R0_succ]
    exact ⟨rfl, rfl, rfl⟩
   ·obtain ⟨rfl, rfl⟩ := g'.uniq g2
    rw [h2, cst_snoc, cst_snoc, cstep_46 hs, cstep_46 hs]
    exact ⟨i1, i2, i3⟩
   ·obtain ⟨rfl, rfl⟩ := g'.uniq g2
    have hlast := hn i e _ l1 (Nat.zero_le _) h1 hs h3
    have hd := filter_last l1 e.f1 h3.sorted hlast
    have hne : l1 ≠ [] := List.ne_nil_of_mem hn'
    have hlp : 0 < l1.length := List.length_pos_iff.2 hne
    have row : ∀ (G : List Int → Int), Fresh G → (cst G (o.take i)).2 = R0 l1.length → (cst G (o.take (i + 1))).1 = (cst G (o.take i)).1 ∧ (cst G (o.take (i + 1))).2 = R0 (l1.filter (fun y => y != e.f1)).length := by
     intro G hG hc
     have e1 : (cst G (o.take (i + 1))).1 = (cst G (o.take i)).1 := by rw [h2, cst_snoc, cstep_45 hs]
     refine ⟨e1, ?_⟩
     rw [(g2.cells hG).1, e1, hd, List.map_take, ← (h3.cells hG).1, hc]
     have h6 : (l1.take (l1.length - 1)).length = l1.length - 1 := by rw [List.length_take]; omega
     rw [h6]
     obtain ⟨t, ht⟩ : ∃ t, l1.length = t + 1 := ⟨l1.length - 1, by omega⟩
     rw [ht, R0_succ, show t + 1 - 1 = t by omega, List.take_append_of_le_length (by rw [R0_length]; exact Nat.le_refl _), List.take_of_length_le (by rw [R0_length]; exact Nat.le_refl _)]
    have r1 := row Gf fresh_first i2
    have r2 := row cntOf fresh_above i3
    exact ⟨by rw [r1.1, r2.1, i1], r1.2, r2.2⟩
 have := key o.length m l (Nat.le_refl _) (by rw [List.take_length]; exact g)
 rw [List.take_length] at this
 exact this
structure EarlyTx (a0 t : ByteArray) (o E : List S55) (m : Nat) : Prop where
 good : ∃ l, Good o m l
 goodE : ∃ l, Good E m l
 told : toldOf a0 = (o, (m : Int), true)
 toldE : toldOf t = (E, (m : Int), true)
 early : earlyOf a0 = (t, true)
 size : t.size = a0.size
 again : earlyOf t = (t, true)
 prompt : Prompt E m
 same : ∀ n : Int, 1 ≤ n → n ≤ m → ((rd_T31 (lvs E) (n - 1)).f2 < 0 ↔ (rd_T31 (lvs o) (n - 1)).f2 < 0)
 most : mostOf t ≤ mostOf a0
 len : o.length ≤ 600
 self : Prompt o m → t = a0
theorem earlyTx {a0 : ByteArray} (h : (toldOf a0).2.2 = true) : ∃ t o E m, EarlyTx a0 t o E m := by
 obtain ⟨m, l, g, hm, hl⟩ := told_good a0
 obtain ⟨htx, hti⟩ := told_text h
 obtain ⟨l', gE⟩ := g.early_all
 have hp := g.early_perm hti
 have htiE : ∀ e ∈ Pr.early (lvs (toldOf a0).1) (toldOf a0).1 0, Tidy e := fun e he => hti e (hp.subset he)
 have hlE : (Pr.early (lvs (toldOf a0).1) (toldOf a0).1 0).length ≤ 600 := by rw [hp.length_eq]; exact hl
 have htE := text_told gE hlE htiE
 have hlv := g.early_lives gE
 have htold : toldOf a0 = ((toldOf a0).1, (m : Int), true) := by rw [← hm, ← h]
 have hself : Pr.early (lvs (Pr.early (lvs (toldOf a0).1) (toldOf a0).1 0)) (Pr.early (lvs (toldOf a0).1) (toldOf a0).1 0) 0 = Pr.early (lvs (toldOf a0).1) (toldOf a0).1 0 := gE.prompt_early htiE hlv.1
 refine ⟨txt ((Pr.early (lvs (toldOf a0).1) (toldOf a0).1 0).map piece), (toldOf a0).1, _, m, ⟨l, g⟩, ⟨l', gE⟩, htold, htE, ?_, ?_, ?_, hlv.1, hlv.2, ?_, hl, ?_⟩
 ·unfold earlyOf; rw [if_pos h]
 ·rw [txt_perm hp, ← htx]
 ·unfold earlyOf
  rw [htE]
  simp only [if_true]
  rw [hself]
 ·unfold mostOf
  rw [htE, if_pos h]
  simp only [if_true]
  exact g.early_most
 ·intro hpr
  rw [g.prompt_early hti hpr]
  exact htx.symm
end Go.Proofs.YtndjbnkmhpbnpaaGreatDoor.Pr
namespace Go.Proofs.YtndjbnkmhpbnpaaGreatDoor.Pr
open Go.RowKit Go.Proofs.YtndjbnkmhpbnpaaGreatDoorW.PrintWords Go.Proofs.YtndjbnkmhpbnpaaGreatDoorW.PrintLast Go.Proofs.YtndjbnkmhpbnpaaGreatDoorW.PrintMore
attribute [local go_sem] max2_int min2_int max_two min_two max_three min_three max_four min_four   -- for this text's walks alone
set_option linter.unusedVariables false
set_option linter.unusedSimpArgs false
def impl_CellsFor.f (a0 : ByteArray) : Option (List Int × Bool) := (impl_kept.f a0).bind fun bt318 => (some (bt318.1, bt318.2.2))
set_option maxHeartbeats 8000000 in
set_option maxRecDepth 100000 in
theorem impl_CellsFor.calls (a0 : ByteArray) (r1 : List Int) (r2 : Bool) (w : World) (hLd : LaidW w) (h : impl_CellsFor.f a0 = some (r1, r2)) :
  Calls Tryz.prog 17 #[.string a0] w fun e w' => ∃ v0_ : Value, e = .returned (.tuple #[v0_, .bool r2]) ∧ Kd.R (Kd.int .i64) 3 w' w.heap.size (fun _ => True) v0_ r1 ∧ Below w.heap.size w w' := by
 have HB := Az.mk (Below.refl w.heap.size w)
 have HLd := Az.mk hLd
 clear hLd
 have H : ((impl_kept.f a0).bind fun bt318 => (some (bt318.1, bt318.2.2))) = some (r1, r2) := h
 clear h
 replace H := Option.bind_eq_some_iff.mp H
 obtain ⟨⟨t318, t319, t320⟩, A20, H⟩ := H
 replace H : (some (t318, t320)) = some (r1, r2) := H
 have A2 := Az.mk A20
 clear A20
 simp only [Option.some.injEq, Prod.mk.injEq] at H
 obtain ⟨rfl, rfl⟩ := H
 go_enter Tryz.func17, Tryz.ntmps17
 go_wp2_with (first | ((with_reducible refine gate_callee (f := 58) rfl ?_); refine goesL_ (some 9) rfl rfl Tryz.func58 (by kernel_rfl) rfl #[.string a0, .func (.func 59) #[] #[]] rfl (by (try simp only [List.map_toArray, List.map_cons, List.map_nil]); first | done | rfl | (simp only [List.length_drop, List.length_take]; rfl)) ?_; (with_reducible refine (impl_kept.calls a0 t318 t319 t320 _ (HLd.out.below (by repeat first|exact HB.out|apply bA|apply bN|apply bD)) A2.out).mono ?_); rintro e w3 ⟨v321, rfl, ho0, hb⟩; refine ⟨_, rfl, ?_⟩; have n0_ := Az.mk (Kd.R_lower ho0 (bZ (by repeat first|exact HB.out|apply bA|apply bN|apply bD))); have n1_ := Az.mk (bS (by repeat first|exact HB.out|apply bA|apply bN|apply bD) hb); clear HB; have HO322 := n0_; have HB := n1_; clear n0_ n1_; (try clear hb); (try clear hb2); (try clear hk); (try clear hi); (try clear ho0)))
 go_ret2
 exact ⟨_, by first | rfl | (simp [errW_none, errW_some] <;> rfl) | (simp [*, errW_none, errW_some] <;> rfl), by (with_reducible repeat first|apply Kd.Ra|apply Kd.Rn|apply Kd.Rw); exact HO322.out, by repeat (first | (with_reducible first|exact HB.out|apply bA|apply bN|apply bD) | exact HB.out)⟩
end Go.Proofs.YtndjbnkmhpbnpaaGreatDoor.Pr
namespace Go.Proofs.YtndjbnkmhpbnpaaGreatDoor.Pr
open Go.RowKit Go.Proofs.YtndjbnkmhpbnpaaGreatDoorW.PrintWords Go.Proofs.YtndjbnkmhpbnpaaGreatDoorW.PrintLast Go.Proofs.YtndjbnkmhpbnpaaGreatDoorW.PrintMore
theorem cellsForS_ev (a0 : ByteArray) (hs : a0.size ≤ 1048576) : Ev (fun k => spec_CellsFor.f k a0) (cellsOf Gf a0) := by
 obtain ⟨m, l, g, hm, hl⟩ := told_good a0
 unfold spec_CellsFor.f cellsOf
 refine Ev.bind (l7Read_ev a0 hs) ?_
 dsimp only
 split
 ·exact Ev.bind (cells_ev g (by omega)) (Ev.now _)
 ·exact Ev.now _
theorem cellsForI_ev (a0 : ByteArray) (hs : a0.size ≤ 1048576) : Ev (fun _ => impl_CellsFor.f a0) (cellsOf Gf a0) := by
 unfold impl_CellsFor.f
 simp only [kept_f a0 hs, Option.bind_some]
 exact Ev.now _
end Go.Proofs.YtndjbnkmhpbnpaaGreatDoor.Pr
namespace Go.Proofs.YtndjbnkmhpbnpaaGreatDoor.Pr
open Go.RowKit Go.Proofs.YtndjbnkmhpbnpaaGreatDoorW.PrintWords Go.Proofs.YtndjbnkmhpbnpaaGreatDoorW.PrintLast Go.Proofs.YtndjbnkmhpbnpaaGreatDoorW.PrintMore
attribute [local go_sem] max2_int min2_int max_two min_two max_three min_three max_four min_four   -- for this text's walks alone
set_option linter.unusedVariables false
set_option linter.unusedSimpArgs false
def impl_StackCells.f (a0 : ByteArray) : Option (List Int × Bool) := (impl_above.f a0).bind fun bt356 => (some (bt356.1, bt356.2.2))
set_option maxHeartbeats 8000000 in
set_option maxRecDepth 100000 in
theorem impl_StackCells.calls (a0 : ByteArray) (r1 : List Int) (r2 : Bool) (w : World) (hLd : LaidW w) (h : impl_StackCells.f a0 = some (r1, r2)) :
  Calls Tryz.prog 19 #[.string a0] w fun e w' => ∃ v0_ : Value, e = .returned (.tuple #[v0_, .bool r2]) ∧ Kd.R (Kd.int .i64) 3 w' w.heap.size (fun _ => True) v0_ r1 ∧ Below w.heap.size w w' := by
 have HB := Az.mk (Below.refl w.heap.size w)
 have HLd := Az.mk hLd
 clear hLd
 have H : ((impl_above.f a0).bind fun bt356 => (some (bt356.1, bt356.2.2))) = some (r1, r2) := h
 clear h
 replace H := Option.bind_eq_some_iff.mp H
 obtain ⟨⟨t356, t357, t358⟩, A20, H⟩ := H
 replace H : (some (t356, t358)) = some (r1, r2) := H
 have A2 := Az.mk A20
 clear A20
 simp only [Option.some.injEq, Prod.mk.injEq] at H
 obtain ⟨rfl, rfl⟩ := H
 go_enter Tryz.func19, Tryz.ntmps19
 go_wp2_with (first | ((with_reducible refine gate_callee (f := 58) rfl ?_); refine goesL_ (some 9) rfl rfl Tryz.func58 (by kernel_rfl) rfl #[.string a0, .func (.func 61) #[] #[]] rfl (by (try simp only [List.map_toArray, List.map_cons, List.map_nil]); first | done | rfl | (simp only [List.length_drop, List.length_take]; rfl)) ?_; (with_reducible refine (impl_above.calls a0 t356 t357 t358 _ (HLd.out.below (by repeat first|exact HB.out|apply bA|apply bN|apply bD)) A2.out).mono ?_); rintro e w3 ⟨v359, rfl, ho0, hb⟩; refine ⟨_, rfl, ?_⟩; have n0_ := Az.mk (Kd.R_lower ho0 (bZ (by repeat first|exact HB.out|apply bA|apply bN|apply bD))); have n1_ := Az.mk (bS (by repeat first|exact HB.out|apply bA|apply bN|apply bD) hb); clear HB; have HO360 := n0_; have HB := n1_; clear n0_ n1_; (try clear hb); (try clear hb2); (try clear hk); (try clear hi); (try clear ho0)))
 go_ret2
 exact ⟨_, by first | rfl | (simp [errW_none, errW_some] <;> rfl) | (simp [*, errW_none, errW_some] <;> rfl), by (with_reducible repeat first|apply Kd.Ra|apply Kd.Rn|apply Kd.Rw); exact HO360.out, by repeat (first | (with_reducible first|exact HB.out|apply bA|apply bN|apply bD) | exact HB.out)⟩
end Go.Proofs.YtndjbnkmhpbnpaaGreatDoor.Pr
namespace Go.Proofs.YtndjbnkmhpbnpaaGreatDoor.Pr
open Go.RowKit Go.Proofs.YtndjbnkmhpbnpaaGreatDoorW.PrintWords Go.Proofs.YtndjbnkmhpbnpaaGreatDoorW.PrintLast Go.Proofs.YtndjbnkmhpbnpaaGreatDoorW.PrintMore
theorem stackCellsS_ev (a0 : ByteArray) (hs : a0.size ≤ 1048576) : Ev (fun k => spec_StackCells.f k a0) (cellsOf cntOf a0) := by
 obtain ⟨m, l, g, hm, hl⟩ := told_good a0
 unfold spec_StackCells.f cellsOf
 refine Ev.bind (l7Read_ev a0 hs) ?_
 dsimp only
 split
 ·exact Ev.bind (stack_ev g (by omega)) (Ev.now _)
 ·exact Ev.now _
theorem stackCellsI_ev (a0 : ByteArray) (hs : a0.size ≤ 1048576) : Ev (fun _ => impl_StackCells.f a0) (cellsOf cntOf a0) := by
 unfold impl_StackCells.f
 simp only [above_f a0 hs, Option.bind_some]
 exact Ev.now _
end Go.Proofs.YtndjbnkmhpbnpaaGreatDoor.Pr
namespace Go.Proofs.YtndjbnkmhpbnpaaGreatDoor.Pr
open Go.RowKit Go.Proofs.YtndjbnkmhpbnpaaGreatDoorW.PrintWords Go.Proofs.YtndjbnkmhpbnpaaGreatDoorW.PrintLast Go.Proofs.YtndjbnkmhpbnpaaGreatDoorW.PrintMore
attribute [local go_sem] max2_int min2_int max_two min_two max_three min_three max_four min_four   -- for this text's walks alone
set_option linter.unusedVariables false
set_option linter.unusedSimpArgs false
def impl_CountCells.f (a0 : ByteArray) : Option (Int) := (impl_kept.f a0).bind fun bt391 => (some bt391.2.1)
set_option maxHeartbeats 8000000 in
set_option maxRecDepth 100000 in
theorem impl_CountCells.calls (a0 : ByteArray) (r : Int) (w : World) (hLd : LaidW w) (h : impl_CountCells.f a0 = some r) :
  Calls Tryz.prog 21 #[.string a0] w fun e w' => e = .returned (.int .i64 r) ∧ Below w.heap.size w w' := by
 have HB := Az.mk (Below.refl w.heap.size w)
 have HLd := Az.mk hLd
 clear hLd
 have H : ((impl_kept.f a0).bind fun bt391 => (some bt391.2.1)) = some r := h
 clear h
 replace H := Option.bind_eq_some_iff.mp H
 obtain ⟨⟨t391, t392, t393⟩, A20, H⟩ := H
 replace H : (some t392) = some r := H
 have A2 := Az.mk A20
 clear A20
 obtain rfl := Option.some.inj H
 go_enter Tryz.func21, Tryz.ntmps21
 go_wp2_with (first | ((with_reducible refine gate_callee (f := 58) rfl ?_); refine goesL_ (some 8) rfl rfl Tryz.func58 (by kernel_rfl) rfl #[.string a0, .func (.func 59) #[] #[]] rfl (by (try simp only [List.map_toArray, List.map_cons, List.map_nil]); first | done | rfl | (simp only [List.length_drop, List.length_take]; rfl)) ?_; (with_reducible refine (impl_kept.calls a0 t391 t392 t393 _ (HLd.out.below (by repeat first|exact HB.out|apply bA|apply bN|apply bD)) A2.out).mono ?_); rintro e w3 ⟨v394, rfl, ho0, hb⟩; refine ⟨_, rfl, ?_⟩; have n0_ := Az.mk (Kd.R_lower ho0 (bZ (by repeat first|exact HB.out|apply bA|apply bN|apply bD))); have n1_ := Az.mk (bS (by repeat first|exact HB.out|apply bA|apply bN|apply bD) hb); clear HB; have HO395 := n0_; have HB := n1_; clear n0_ n1_; (try clear hb); (try clear hb2); (try clear hk); (try clear hi); (try clear ho0)))
 go_ret
 exact ⟨by first | rfl | (simp [errW_none, errW_some] <;> rfl) | (simp [*, errW_none, errW_some] <;> rfl), by repeat (first | (with_reducible first|exact HB.out|apply bA|apply bN|apply bD) | exact HB.out)⟩
end Go.Proofs.YtndjbnkmhpbnpaaGreatDoor.Pr
namespace Go.Proofs.YtndjbnkmhpbnpaaGreatDoor.Pr
open Go.RowKit Go.Proofs.YtndjbnkmhpbnpaaGreatDoorW.PrintWords Go.Proofs.YtndjbnkmhpbnpaaGreatDoorW.PrintLast Go.Proofs.YtndjbnkmhpbnpaaGreatDoorW.PrintMore
theorem countCellsS_ev (a0 : ByteArray) (hs : a0.size ≤ 1048576) : Ev (fun k => spec_CountCells.f k a0) (manyOf Gf a0) := by
 obtain ⟨m, l, g, hm, hl⟩ := told_good a0
 have h1 := g.cells_length (G := Gf)
 have h2 := g.made
 have ht := g.taken (G := Gf) getter_first.bound
 unfold spec_CountCells.f manyOf
 refine Ev.bind (l7Read_ev a0 hs) ?_
 dsimp only
 split
 ·exact Ev.bind (cells_ev g (by omega)) (Ev.bind (count_ev _ (by omega) (fun y hy => by have := ht.2.2 y hy; omega)) (Ev.now _))
 ·exact Ev.now _
theorem countCellsI_ev (a0 : ByteArray) (hs : a0.size ≤ 1048576) : Ev (fun _ => impl_CountCells.f a0) (manyOf Gf a0) := by
 unfold impl_CountCells.f
 simp only [kept_f a0 hs, Option.bind_some]
 exact Ev.now _
end Go.Proofs.YtndjbnkmhpbnpaaGreatDoor.Pr
namespace Go.Proofs.YtndjbnkmhpbnpaaGreatDoor.Pr
open Go.RowKit Go.Proofs.YtndjbnkmhpbnpaaGreatDoorW.PrintWords Go.Proofs.YtndjbnkmhpbnpaaGreatDoorW.PrintLast Go.Proofs.YtndjbnkmhpbnpaaGreatDoorW.PrintMore
attribute [local go_sem] max2_int min2_int max_two min_two max_three min_three max_four min_four   -- for this text's walks alone
set_option linter.unusedVariables false
set_option linter.unusedSimpArgs false
def impl_CountStack.f (a0 : ByteArray) : Option (Int) := (impl_above.f a0).bind fun bt396 => (some bt396.2.1)
set_option maxHeartbeats 8000000 in
set_option maxRecDepth 100000 in
theorem impl_CountStack.calls (a0 : ByteArray) (r : Int) (w : World) (hLd : LaidW w) (h : impl_CountStack.f a0 = some r) :
  Calls Tryz.prog 22 #[.string a0] w fun e w' => e = .returned (.int .i64 r) ∧ Below w.heap.size w w' := by
 have HB := Az.mk (Below.refl w.heap.size w)
 have HLd := Az.mk hLd
 clear hLd
 have H : ((impl_above.f a0).bind fun bt396 => (some bt396.2.1)) = some r := h
 clear h
 replace H := Option.bind_eq_some_iff.mp H
 obtain ⟨⟨t396, t397, t398⟩, A20, H⟩ := H
 replace H : (some t397) = some r := H
 have A2 := Az.mk A20
 clear A20
 obtain rfl := Option.some.inj H
 go_enter Tryz.func22, Tryz.ntmps22
 go_wp2_with (first | ((with_reducible refine gate_callee (f := 58) rfl ?_); refine goesL_ (some 8) rfl rfl Tryz.func58 (by kernel_rfl) rfl #[.string a0, .func (.func 61) #[] #[]] rfl (by (try simp only [List.map_toArray, List.map_cons, List.map_nil]); first | done | rfl | (simp only [List.length_drop, List.length_take]; rfl)) ?_; (with_reducible refine (impl_above.calls a0 t396 t397 t398 _ (HLd.out.below (by repeat first|exact HB.out|apply bA|apply bN|apply bD)) A2.out).mono ?_); rintro e w3 ⟨v399, rfl, ho0, hb⟩; refine ⟨_, rfl, ?_⟩; have n0_ := Az.mk (Kd.R_lower ho0 (bZ (by repeat first|exact HB.out|apply bA|apply bN|apply bD))); have n1_ := Az.mk (bS (by repeat first|exact HB.out|apply bA|apply bN|apply bD) hb); clear HB; have HO400 := n0_; have HB := n1_; clear n0_ n1_; (try clear hb); (try clear hb2); (try clear hk); (try clear hi); (try clear ho0)))
 go_ret
 exact ⟨by first | rfl | (simp [errW_none, errW_some] <;> rfl) | (simp [*, errW_none, errW_some] <;> rfl), by repeat (first | (with_reducible first|exact HB.out|apply bA|apply bN|apply bD) | exact HB.out)⟩
end Go.Proofs.YtndjbnkmhpbnpaaGreatDoor.Pr
namespace Go.Proofs.YtndjbnkmhpbnpaaGreatDoor.Pr
open Go.RowKit Go.Proofs.YtndjbnkmhpbnpaaGreatDoorW.PrintWords Go.Proofs.YtndjbnkmhpbnpaaGreatDoorW.PrintLast Go.Proofs.YtndjbnkmhpbnpaaGreatDoorW.PrintMore
theorem countStackS_ev (a0 : ByteArray) (hs : a0.size ≤ 1048576) : Ev (fun k => spec_CountStack.f k a0) (manyOf cntOf a0) := by
 obtain ⟨m, l, g, hm, hl⟩ := told_good a0
 have h1 := g.cells_length (G := cntOf)
 have h2 := g.made
 have ht := g.taken (G := cntOf) getter_above.bound
 unfold spec_CountStack.f manyOf
 refine Ev.bind (l7Read_ev a0 hs) ?_
 dsimp only
 split
 ·exact Ev.bind (stack_ev g (by omega)) (Ev.bind (count_ev _ (by omega) (fun y hy => by have := ht.2.2 y hy; omega)) (Ev.now _))
 ·exact Ev.now _
theorem countStackI_ev (a0 : ByteArray) (hs : a0.size ≤ 1048576) : Ev (fun _ => impl_CountStack.f a0) (manyOf cntOf a0) := by
 unfold impl_CountStack.f
 simp only [above_f a0 hs, Option.bind_some]
 exact Ev.now _
end Go.Proofs.YtndjbnkmhpbnpaaGreatDoor.Pr
