/- FnExactEarlyEvents: the plain law. -/
import Derived.Test.YtmhagppajcidcaaDoorPFb
import Derived.Test.YtmhagppajcidcaaDoorPG
import Derived.Test.YtmhagppajcidcaaDoorQ8
namespace Go.Proofs.YtmhagppajcidcaaDoor.Pr
open Go.RowKit Go.Proofs.YtmhagppajcidcaaDoorW.PrintWords Go.Proofs.YtmhagppajcidcaaDoorW.PrintLast Go.Proofs.YtmhagppajcidcaaDoorW.PrintMore
theorem conv_iff {e : S50} (h : e.f0.toList = [43] ∨ e.f0.toList = [46] ∨ e.f0.toList = [45]) : ((conv e).f0 = 43 ↔ e.f0.toList = [43]) ∧ ((conv e).f0 = 45 ↔ e.f0.toList = [45]) := by
  rcases h with h | h | h
  · rw [conv_43 h, h]; decide
  · rw [conv_46 h, h]; decide
  · rw [conv_45 h, h]; decide
theorem Ev.pos {α : Type} {c : Prop} [Decidable c] {f g : Nat → Option α} {r : α} (h : c) (k : Ev f r) : Ev (fun n => if c then f n else g n) r := by
  simpa only [if_pos h] using k
theorem take_len {B : Nat} {ps : List (List UInt8)} (h : ∀ p ∈ ps, p.length ≤ B) (i : Nat) (hB : B ≤ 1000) (hi : i ≤ 2000000) : (jn (ps.take i)).length ≤ 2002000000 := by
  have h1 := jn_len (B := B) (ps.take i) (fun p hp => h p (List.mem_of_mem_take hp))
  have h2 : (ps.take i).length ≤ 2000000 := by rw [List.length_take]; omega
  have := Nat.mul_le_mul (show B + 1 ≤ 1001 by omega) h2
  omega
theorem last_txt {ps : List (List UInt8)} (h : ∀ p ∈ ps, p ≠ []) : (if (bs (jn ps)).toList = ([] : List UInt8) then (some (⟨#[45]⟩ : ByteArray)) else (some (bs (jn ps)))) = some (txt ps) := by
  unfold txt
  rw [bs_toList]
  by_cases hp : ps = []
  · subst hp
    rfl
  · rw [if_neg (jn_ne ps hp h), if_neg hp]
/-! events written out -/
def piece (e : S50) : List UInt8 := e.f0.toList ++ Lib.itoa e.f1
/-- an event with a sign of one byte and a small number -/
def Plain1 (e : S50) : Prop := (∃ c, e.f0.toList = [c]) ∧ 1 ≤ e.f1 ∧ e.f1 ≤ 1000
theorem piece_len {l : List S50} (h : ∀ e ∈ l, Plain1 e) : ∀ p ∈ l.map piece, p.length ≤ 22 := by
  intro p hp
  obtain ⟨e, he, rfl⟩ := List.mem_map.1 hp
  obtain ⟨⟨c, hc⟩, h1, h2⟩ := h e he
  have := itoa_len e.f1 (by omega) (by omega)
  unfold piece
  rw [hc]
  simp
  omega
theorem piece_ne {l : List S50} (h : ∀ e ∈ l, Plain1 e) : ∀ p ∈ l.map piece, p ≠ [] := by
  intro p hp
  obtain ⟨e, he, rfl⟩ := List.mem_map.1 hp
  obtain ⟨⟨c, hc⟩, _⟩ := h e he
  unfold piece
  rw [hc]
  simp
theorem sign_str {e : S50} {c : UInt8} (h : e.f0.toList = [c]) : strOfNums [(conv e).f0] = bs [c] := by
  have h1 : (conv e).f0 = (c.toNat : Int) := bt_sign h
  unfold strOfNums bs
  rw [h1]
  simp
theorem text_go (l : List S50) (hn : ∀ e ∈ l, Plain1 e) (hl : l.length ≤ 1048576) : ∀ (d i : Nat), i + d = l.length →
    Ev (fun k => spec_l7Text.l0 k (bs (jn ((l.map piece).take i))) (l.map conv) ((l.map conv).length : Int) (i : Int)) (txt (l.map piece))
  | 0, i, hi => by
    refine Ev.step (fun k => spec_l7Text.l0.eq_2 (k := k) ..) ?_
    simp only [if_neg (show ¬ ((i : Int) < ((l.map conv).length : Int)) by simp; omega)]
    rw [List.take_of_length_le (by rw [List.length_map]; omega)]
    simp only [last_txt (piece_ne hn)]
    exact Ev.now _
  | d + 1, i, hi => by
    have hlt : i < l.length := by omega
    have hnl : (l.map piece).length = l.length := List.length_map ..
    obtain ⟨⟨c, hc⟩, h1, h2⟩ := hn _ (List.getElem_mem hlt)
    have ih := text_go l hn hl d (i + 1) (by omega)
    rw [jn_take (by omega)] at ih
    have hg : (l.map piece)[i]'(by omega) = piece l[i] := List.getElem_map ..
    rw [hg] at ih
    have hlen := take_len (piece_len hn) i (by omega) (by omega)
    have hit := itoa_len l[i].f1 (by omega) (by omega)
    have hgs : l[i]? = some l[i] := List.getElem?_eq_getElem hlt
    refine Ev.step (fun k => spec_l7Text.l0.eq_2 (k := k) ..) ?_
    simp only [if_pos (show ((i : Int) < ((l.map conv).length : Int)) by simp; omega), if_pos (show (0 : Int) ≤ (i : Int) by omega), rd59_at hgs, wrap_up (show i ≤ 1000000000 by omega), show (⟨#[32]⟩ : ByteArray) = bs [32] from rfl, sign_str hc, conv_f1, Option.bind_some, bs_append, bs_size]
    by_cases hz : i = 0
    · subst hz
      simp only [if_neg (show ¬ (((0 : Nat) : Int) > 0) by omega)]
      refine Ev.pos (by simp only [List.length_singleton]; omega) (Ev.bind (dec_ev _ (by omega) (by omega)) ?_)
      simp only [bs_append, bs_size]
      refine Ev.pos (by simp only [List.length_append, List.length_singleton]; omega) ?_
      simpa [jn, Lib.join_nil, piece, hc] using ih
    · simp only [if_pos (show ((i : Int) > 0) by omega)]
      rw [if_neg hz] at ih
      refine Ev.pos (by omega) (Ev.pos (by simp only [List.length_append, List.length_singleton]; omega) (Ev.bind (dec_ev _ (by omega) (by omega)) ?_))
      simp only [bs_append, bs_size]
      refine Ev.pos (by simp only [List.length_append, List.length_singleton]; omega) ?_
      simpa [piece, hc, List.append_assoc] using ih
theorem text_ev (l : List S50) (hn : ∀ e ∈ l, Plain1 e) (hl : l.length ≤ 1048576) : Ev (fun k => spec_l7Text.f k (l.map conv)) (txt (l.map piece)) := by
  have := text_go l hn hl l.length 0 (Nat.zero_add _)
  rw [List.take_zero] at this
  exact this
/-! early -/
def early1 (xs : List S44) (e : S50) (i : Int) : List S50 :=
  if e.f0.toList = [45] then [] else if (rd_T44 xs (e.f1 - 1)).f1 = i ∧ (rd_T44 xs (e.f1 - 1)).f2 ≥ 0 then [e, ⟨bs [45], e.f1⟩] else [e]
def early (xs : List S44) : List S50 → Int → List S50
  | [], _ => []
  | e :: r, i => early1 xs e i ++ early xs r (i + 1)
theorem early1_len (xs : List S44) (e : S50) (i : Int) : (early1 xs e i).length ≤ 2 := by
  unfold early1
  split
  · simp
  · split <;> simp
theorem early_len (xs : List S44) : ∀ (l : List S50) (i : Int), (early xs l i).length ≤ 2 * l.length
  | [], i => by simp [early]
  | e :: r, i => by
    have := early_len xs r (i + 1)
    have := early1_len xs e i
    rw [early]
    simp
    omega
theorem early1_plain {xs : List S44} {e : S50} {i : Int} (h : Plain1 e) : ∀ x ∈ early1 xs e i, Plain1 x := by
  intro x hx
  unfold early1 at hx
  split at hx
  · cases hx
  · split at hx
    · rcases List.mem_cons.1 hx with rfl | hx
      · exact h
      · have := List.mem_singleton.1 hx
        subst this
        exact ⟨⟨45, by rw [bs_toList]⟩, h.2⟩
    · have := List.mem_singleton.1 hx
      subst this
      exact h
theorem early_plain {xs : List S44} : ∀ {l : List S50} {i : Int}, (∀ e ∈ l, Plain1 e) → ∀ x ∈ early xs l i, Plain1 x
  | [], i, _ => by intro x hx; simp [early] at hx
  | e :: r, i, h => by
    intro x hx
    rw [early] at hx
    rcases List.mem_append.1 hx with hx | hx
    · exact early1_plain (h e (by simp)) x hx
    · exact early_plain (fun y hy => h y (List.mem_cons_of_mem _ hy)) x hx
theorem conv_min (n : Int) : conv ⟨bs [45], n⟩ = (⟨45, n⟩ : S52) := by
  have h : bt (bs [45]) 0 = 45 := bt_sign (c := 45) (by rw [bs_toList])
  show (⟨bt (bs [45]) 0, n⟩ : S52) = ⟨45, n⟩
  rw [h]
theorem Good.plain {o : List S50} {m : Nat} {l : List Int} (g : Good o m l) (hl : o.length ≤ 600) : ∀ e ∈ o, Plain1 e := by
  intro e he
  have h1 := g.values e he
  have h2 := g.made
  refine ⟨?_, h1.1, by omega⟩
  rcases g.signs e he with h | h | h
  · exact ⟨_, h⟩
  · exact ⟨_, h⟩
  · exact ⟨_, h⟩
theorem rd48_bound {xs : List S44} {n : Int} (h0 : 0 ≤ n) (h1 : n < (xs.length : Int)) : 0 ≤ n ∧ n < (xs.length : Int) := ⟨h0, h1⟩
theorem earlyS_go {o : List S50} {m : Nat} {l : List Int} (g : Good o m l) (hl : o.length ≤ 600) : ∀ (d i : Nat) (acc : List S50), i + d = o.length → acc.length ≤ 2 * i → (∀ e ∈ acc, Plain1 e) →
    Ev (fun k => spec_EarlyEvents.l0 k (acc.map conv) (lvs o) (o.map conv) ((o.map conv).length : Int) (i : Int)) (txt ((acc ++ early (lvs o) (o.drop i) i).map piece), true)
  | 0, i, acc, hi, ha, hp => by
    refine Ev.step (fun k => spec_EarlyEvents.l0.eq_2 (k := k) ..) ?_
    simp only [if_neg (show ¬ ((i : Int) < ((o.map conv).length : Int)) by simp; omega)]
    rw [List.drop_of_length_le (by omega), early, List.append_nil]
    exact Ev.bind (text_ev acc hp (by omega)) (Ev.now _)
  | d + 1, i, acc, hi, ha, hp => by
    have hlt : i < o.length := by omega
    have hgs : o[i]? = some o[i] := List.getElem?_eq_getElem hlt
    have hv := g.values _ (List.getElem_mem hlt)
    have hpl := g.plain hl _ (List.getElem_mem hlt)
    have hll := g.lvs_length
    have hmd := g.made
    have IH : ∀ x : List S50, x = early1 (lvs o) o[i] i → Ev (fun k => spec_EarlyEvents.l0 k ((acc ++ x).map conv) (lvs o) (o.map conv) ((o.map conv).length : Int) ((i + 1 : Nat) : Int)) (txt ((acc ++ (early1 (lvs o) o[i] i ++ early (lvs o) (o.drop (i + 1)) ((i + 1 : Nat) : Int))).map piece), true) := by
      intro x hx
      subst hx
      have := earlyS_go g hl d (i + 1) (acc ++ early1 (lvs o) o[i] i) (by omega) (by have := early1_len (lvs o) o[i] i; simp; omega) (fun e he => by
        rcases List.mem_append.1 he with he | he
        · exact hp e he
        · exact early1_plain hpl e he)
      rw [List.append_assoc] at this
      exact this
    rw [List.drop_eq_getElem_cons hlt, early]
    refine Ev.step (fun k => spec_EarlyEvents.l0.eq_2 (k := k) ..) ?_
    simp only [if_pos (show ((i : Int) < ((o.map conv).length : Int)) by simp; omega), if_pos (show (0 : Int) ≤ (i : Int) by omega), rd59_at hgs, wrap_up (show i ≤ 1000000000 by omega), conv_f1]
    have cs := conv_iff (g.signs _ (List.getElem_mem hlt))
    by_cases h45 : o[i].f0.toList = [45]
    · simp only [if_pos (cs.2.2 h45)]
      have := IH [] (by unfold early1; rw [if_pos h45])
      rw [List.append_nil] at this
      exact this
    · simp only [if_neg (fun h => h45 (cs.2.1 h)), List.length_map, show (⟨(conv o[i]).f0, o[i].f1⟩ : S52) = conv o[i] from rfl]
      refine Ev.pos (by omega) ?_
      simp only [Option.bind_some, wrap_small (n := o[i].f1 - 1) (by omega) (by omega), if_pos (show 0 ≤ o[i].f1 - 1 by omega), if_pos (show o[i].f1 - 1 < ((lvs o).length : Int) by omega)]
      by_cases hu : (rd_T44 (lvs o) (o[i].f1 - 1)).f1 = (i : Int)
      · simp only [if_pos hu]
        by_cases hd : (rd_T44 (lvs o) (o[i].f1 - 1)).f2 ≥ 0
        · simp only [if_pos hd]
          refine Ev.pos (by simp; omega) ?_
          have := IH [o[i], ⟨bs [45], o[i].f1⟩] (by unfold early1; rw [if_neg h45, if_pos ⟨hu, hd⟩])
          simp only [List.map_append, List.map_cons, List.map_nil, conv_min] at this ⊢
          simpa [List.append_assoc] using this
        · simp only [if_neg hd]
          have := IH [o[i]] (by unfold early1; rw [if_neg h45, if_neg (fun h => hd h.2)])
          simpa using this
      · simp only [if_neg hu]
        have := IH [o[i]] (by unfold early1; rw [if_neg h45, if_neg (fun h => hu h.1)])
        simpa using this
theorem bs_self (s : ByteArray) : bs s.toList = s := by
  rw [Lib.toList_data]
  rfl
theorem earlyI_go {o : List S50} {m : Nat} {l : List Int} (g : Good o m l) (hl : o.length ≤ 600) : ∀ (d i : Nat) (acc : List S50), i + d = o.length → acc.length ≤ 2 * i → (∀ e ∈ acc, Plain1 e) →
    Ev (fun k => impl_EarlyEvents.l0 k ((acc.map piece).map bs) (lvs o) o (o.length : Int) (i : Int)) (txt ((acc ++ early (lvs o) (o.drop i) i).map piece), true)
  | 0, i, acc, hi, ha, hp => by
    refine Ev.step (fun k => impl_EarlyEvents.l0.eq_2 (k := k) ..) ?_
    simp only [if_neg (show ¬ ((i : Int) < (o.length : Int)) by omega)]
    rw [List.drop_of_length_le (by omega), early, List.append_nil, spaced_txt (acc.map piece) (piece_len hp) (by omega) (by simp; omega)]
    exact Ev.now _
  | d + 1, i, acc, hi, ha, hp => by
    have hlt : i < o.length := by omega
    have hgs : o[i]? = some o[i] := List.getElem?_eq_getElem hlt
    have hv := g.values _ (List.getElem_mem hlt)
    have hpl := g.plain hl _ (List.getElem_mem hlt)
    have hll := g.lvs_length
    have hmd := g.made
    have hit := itoa_len o[i].f1 (by omega) (by omega)
    have IH : ∀ x : List S50, x = early1 (lvs o) o[i] i → Ev (fun k => impl_EarlyEvents.l0 k (((acc ++ x).map piece).map bs) (lvs o) o (o.length : Int) ((i + 1 : Nat) : Int)) (txt ((acc ++ (early1 (lvs o) o[i] i ++ early (lvs o) (o.drop (i + 1)) ((i + 1 : Nat) : Int))).map piece), true) := by
      intro x hx
      subst hx
      have := earlyI_go g hl d (i + 1) (acc ++ early1 (lvs o) o[i] i) (by omega) (by have := early1_len (lvs o) o[i] i; simp; omega) (fun e he => by
        rcases List.mem_append.1 he with he | he
        · exact hp e he
        · exact early1_plain hpl e he)
      rw [List.append_assoc] at this
      exact this
    have pc : ∀ e : S50, e.f0 ++ bs (Lib.itoa e.f1) = bs (piece e) := fun e => by
      unfold piece
      rw [← bs_append, bs_self]
    have pm : (⟨#[45]⟩ : ByteArray) ++ bs (Lib.itoa o[i].f1) = bs (piece ⟨bs [45], o[i].f1⟩) := pc ⟨bs [45], o[i].f1⟩
    obtain ⟨⟨c, hc⟩, _⟩ := hpl
    have hsz : (o[i].f0).size = 1 := by
      have h := congrArg List.length hc
      rw [Lib.toList_data] at h
      simpa using h
    rw [List.drop_eq_getElem_cons hlt, early]
    refine Ev.step (fun k => impl_EarlyEvents.l0.eq_2 (k := k) ..) ?_
    simp only [if_pos (show ((i : Int) < (o.length : Int)) by omega), if_pos (show (0 : Int) ≤ (i : Int) by omega), rd62_at hgs, wrap_up (show i ≤ 1000000000 by omega), itoa_f o[i].f1 (by omega) (by omega), Option.bind_some]
    by_cases h45 : o[i].f0.toList = [45]
    · simp only [if_pos h45]
      have := IH [] (by unfold early1; rw [if_pos h45])
      rw [List.append_nil] at this
      exact this
    · simp only [if_neg h45, pc, pm, List.length_map, bs_size]
      refine Ev.pos (by omega) (Ev.pos (by omega) ?_)
      simp only [wrap_small (n := o[i].f1 - 1) (by omega) (by omega), if_pos (show 0 ≤ o[i].f1 - 1 by omega), if_pos (show o[i].f1 - 1 < ((lvs o).length : Int) by omega)]
      by_cases hu : (rd_T44 (lvs o) (o[i].f1 - 1)).f1 = (i : Int)
      · simp only [if_pos hu]
        by_cases hd : (rd_T44 (lvs o) (o[i].f1 - 1)).f2 ≥ 0
        · simp only [if_pos hd]
          refine Ev.pos (by omega) (Ev.pos (by simp; omega) ?_)
          have := IH [o[i], ⟨bs [45], o[i].f1⟩] (by unfold early1; rw [if_neg h45, if_pos ⟨hu, hd⟩])
          simpa [List.append_assoc] using this
        · simp only [if_neg hd]
          have := IH [o[i]] (by unfold early1; rw [if_neg h45, if_neg (fun h => hd h.2)])
          simpa using this
      · simp only [if_neg hu]
        have := IH [o[i]] (by unfold early1; rw [if_neg h45, if_neg (fun h => hu h.1)])
        simpa using this
def earlyOf (a0 : ByteArray) : ByteArray × Bool := if (toldOf a0).2.2 = true then (txt ((early (lvs (toldOf a0).1) (toldOf a0).1 0).map piece), true) else (⟨#[]⟩, false)
theorem earlyS_ev (a0 : ByteArray) (hs : a0.size ≤ 1048576) : Ev (fun k => spec_EarlyEvents.f k a0) (earlyOf a0) := by
  obtain ⟨m, l, g, hm, hl⟩ := told_good a0
  unfold spec_EarlyEvents.f earlyOf
  refine Ev.bind (l7Read_ev a0 hs) ?_
  dsimp only
  split
  · refine Ev.bind (lives_ev g (by omega)) ?_
    have := earlyS_go g hl _ 0 [] (Nat.zero_add _) (by simp) (fun e he => by cases he)
    rw [List.drop_zero] at this
    exact this
  · exact Ev.now _
theorem earlyI_ev (a0 : ByteArray) (hs : a0.size ≤ 1048576) : Ev (fun k => impl_EarlyEvents.f k a0) (earlyOf a0) := by
  obtain ⟨m, l, g, hm, hl⟩ := told_good a0
  unfold impl_EarlyEvents.f earlyOf
  simp only [told_f a0 hs, Option.bind_some, hm]
  split
  · simp only [lives_told g (show (toldOf a0).1.length ≤ 1000000 by omega), Option.bind_some]
    have := earlyI_go g hl _ 0 [] (Nat.zero_add _) (by simp) (fun e he => by cases he)
    rw [List.drop_zero] at this
    exact this
  · exact Ev.now _
end Go.Proofs.YtmhagppajcidcaaDoor.Pr
namespace Go.Proofs.YtmhagppajcidcaaDoor.Pure
open Go.RowKit Go.Proofs.YtmhagppajcidcaaDoorW.PrintWords Go.Proofs.YtmhagppajcidcaaDoorW.PrintLast Go.Proofs.YtmhagppajcidcaaDoorW.PrintMore
open Go.Proofs.YtmhagppajcidcaaDoor.Pr
theorem FnExactEarlyEvents : laws_FnExactEarlyEvents.Pure := by
  intro a0 _
  by_cases hs : (a0.size : Int) > 1048576
  · exact ⟨0, by unfold laws_FnExactEarlyEvents.f; rw [if_pos hs]⟩
  · refine Ev.rounds ?_
    unfold laws_FnExactEarlyEvents.f
    simp only [if_neg hs]
    refine Ev.bind (earlyS_ev a0 (by omega)) (Ev.bind (earlyI_ev a0 (by omega)) ?_)
    simp only [if_true, bne_self_eq_false, Bool.false_eq_true, if_false]
    exact Ev.now _
end Go.Proofs.YtmhagppajcidcaaDoor.Pure
