/- FnExactAreNested: the plain law. -/
import Derived.Test.YtlikgaohcnbocaaDoorPFb
import Derived.Test.YtlikgaohcnbocaaDoorQ6
namespace Go.Proofs.YtlikgaohcnbocaaDoor.Pr
open Go.RowKit Go.Proofs.YtlikgaohcnbocaaDoorW.PrintWords Go.Proofs.YtlikgaohcnbocaaDoorW.PrintLast Go.Proofs.YtlikgaohcnbocaaDoorW.PrintMore
/-! nested -/
theorem filter_last : ∀ (l : List Int) (n : Int), l.Pairwise (· < ·) → l.getLast? = some n → l.filter (fun y => y != n) = l.take (l.length - 1)
  | [], n, _, h => by simp at h
  | [a], n, _, h => by simp at h; subst h; simp
  | a :: b :: r, n, hp, h => by
    cases hp with
    | cons h1 h2 =>
      rw [List.getLast?_cons_cons] at h
      have hn : n ∈ b :: r := List.mem_of_getLast? h
      have hlt := h1 n hn
      rw [List.filter_cons_of_pos (by simp only [bne_iff_ne]; omega), filter_last (b :: r) n h2 h]
      simp
theorem last_rd {l : List Int} {n : Int} (h : l ≠ []) : rd l ((l.length : Int) - 1) = n ↔ l.getLast? = some n := by
  have hl : 0 < l.length := List.length_pos_iff.2 h
  rw [List.getLast?_eq_getElem?, show (l.length : Int) - 1 = ((l.length - 1 : Nat) : Int) by omega, rd_at (by omega), List.getElem?_eq_getElem (by omega)]
  simp
theorem nested_go {o : List S62} {m : Nat} {l : List Int} (g : Good o m l) (hl : o.length ≤ 1000000) (b : Bool) : ∀ (d i m' : Nat) (l' : List Int), i + d = o.length → Good (o.take i) m' l' →
    ∃ r, Ev (fun k => spec_AreNested.l0 k b l' (o.map conv) ((o.map conv).length : Int) (i : Int)) r ∧ Ev (fun k => impl_AreNested.l0 k b (lvs o) o (o.length : Int) (i : Int)) r
  | 0, i, m', l', hi, g' => by
    refine ⟨b, ?_, ?_⟩
    · refine Ev.step (fun k => spec_AreNested.l0.eq_2 (k := k) ..) ?_
      simp only [if_neg (show ¬ ((i : Int) < ((o.map conv).length : Int)) by simp; omega)]
      exact Ev.now _
    · refine Ev.step (fun k => impl_AreNested.l0.eq_2 (k := k) ..) ?_
      simp only [if_neg (show ¬ ((i : Int) < (o.length : Int)) by omega)]
      exact Ev.now _
  | d + 1, i, m', l', hi, g' => by
    obtain ⟨e, m1, l1, h1, h2, h3, h4, h5⟩ := g.step i (by omega)
    obtain ⟨rfl, rfl⟩ := g'.uniq h3
    have hal := g.alv_take i m' l' (by omega) g'
    have hm := g'.made
    have hll := g.lvs_length
    have hgm := g.made
    simp only [List.length_take] at hm
    have S : ∀ r, (Ev (fun k => if (conv e).f0 = 43 then (if l'.length < 17592186044416 then (spec_AreNested.l0 k b (l' ++ [(conv e).f1]) (o.map conv) ((o.map conv).length : Int) ((i + 1 : Nat) : Int)) else (none)) else (if (conv e).f0 = 45 then (if 0 ≤ (wrap64 ((l'.length : Int) - 1)) then (if (wrap64 ((l'.length : Int) - 1)) < (l'.length : Int) then (if (rd l' (wrap64 ((l'.length : Int) - 1))) = (conv e).f1 then (if (wrap64 ((l'.length : Int) - 1)) ≤ (l'.length : Int) then (spec_AreNested.l0 k b (l'.take ((wrap64 ((l'.length : Int) - 1)) : Int).toNat) (o.map conv) ((o.map conv).length : Int) ((i + 1 : Nat) : Int)) else (none)) else (some false)) else (none)) else (none)) else (spec_AreNested.l0 k b l' (o.map conv) ((o.map conv).length : Int) ((i + 1 : Nat) : Int)))) r) →
        Ev (fun k => spec_AreNested.l0 k b l' (o.map conv) ((o.map conv).length : Int) (i : Int)) r := by
      intro r h
      refine Ev.step (fun k => spec_AreNested.l0.eq_2 (k := k) ..) ?_
      simp only [if_pos (show ((i : Int) < ((o.map conv).length : Int)) by simp; omega), if_pos (show (0 : Int) ≤ (i : Int) by omega), rd59_at h1, wrap_up (show i ≤ 1000000000 by omega)]
      exact h
    have I : ∀ r, (Ev (fun k => if e.f0.toList = ([45] : List UInt8) then (if 0 ≤ (wrap64 ((l'.length : Int) - 1)) then (if (wrap64 ((l'.length : Int) - 1)) < (l'.length : Int) then (if (rd l' (wrap64 ((l'.length : Int) - 1))) = e.f1 then (impl_AreNested.l0 k b (lvs o) o (o.length : Int) ((i + 1 : Nat) : Int)) else (some false)) else (none)) else (none)) else (impl_AreNested.l0 k b (lvs o) o (o.length : Int) ((i + 1 : Nat) : Int))) r) →
        Ev (fun k => impl_AreNested.l0 k b (lvs o) o (o.length : Int) (i : Int)) r := by
      intro r h
      refine Ev.step (fun k => impl_AreNested.l0.eq_2 (k := k) ..) ?_
      simp only [if_pos (show ((i : Int) < (o.length : Int)) by omega), if_pos (show (0 : Int) ≤ (i : Int) by omega), rd62_at h1, wrap_up (show i ≤ 1000000000 by omega)]
      have A := alive_ev (lvs o) (wrap64 ((i : Int) - 1)) (by omega)
      rw [wrap_small (by omega) (by omega), hal] at A
      rw [wrap_small (n := (i : Int) - 1) (by omega) (by omega)]
      exact Ev.bind A h
    rcases h5 with ⟨hs, hn, _, g2⟩ | ⟨hs, hn, g2⟩ | ⟨hs, hn, g2⟩
    · obtain ⟨r, r1, r2⟩ := nested_go g hl b d (i + 1) _ _ (by omega) g2
      refine ⟨r, S r ?_, I r ?_⟩
      · simp only [if_pos (conv_43 hs), if_pos (show l'.length < 17592186044416 by omega), conv_f1, hn]
        exact r1
      · simp only [if_neg (show ¬ e.f0.toList = [45] by rw [hs]; decide)]
        exact r2
    · obtain ⟨r, r1, r2⟩ := nested_go g hl b d (i + 1) _ _ (by omega) g2
      refine ⟨r, S r ?_, I r ?_⟩
      · simp only [conv_46 hs, show ¬ ((46 : Int) = 43) by decide, show ¬ ((46 : Int) = 45) by decide, if_false]
        exact r1
      · simp only [if_neg (show ¬ e.f0.toList = [45] by rw [hs]; decide)]
        exact r2
    · have hne : l' ≠ [] := List.ne_nil_of_mem hn
      have hlp : 0 < l'.length := List.length_pos_iff.2 hne
      have hw : wrap64 ((l'.length : Int) - 1) = (l'.length : Int) - 1 := wrap_small (by omega) (by omega)
      by_cases hlast : l'.getLast? = some e.f1
      · obtain ⟨r, r1, r2⟩ := nested_go g hl b d (i + 1) _ _ (by omega) g2
        refine ⟨r, S r ?_, I r ?_⟩
        · simp only [conv_45 hs, show ¬ ((45 : Int) = 43) by decide, if_false, if_true, hw, if_pos (show 0 ≤ (l'.length : Int) - 1 by omega), if_pos (show (l'.length : Int) - 1 < (l'.length : Int) by omega), conv_f1, if_pos ((last_rd hne).2 hlast), if_pos (show (l'.length : Int) - 1 ≤ (l'.length : Int) by omega)]
          rw [show ((l'.length : Int) - 1).toNat = l'.length - 1 by omega, ← filter_last _ _ g'.sorted hlast]
          exact r1
        · simp only [if_pos hs, hw, if_pos (show 0 ≤ (l'.length : Int) - 1 by omega), if_pos (show (l'.length : Int) - 1 < (l'.length : Int) by omega), if_pos ((last_rd hne).2 hlast)]
          exact r2
      · have hlast' : ¬ rd l' ((l'.length : Int) - 1) = e.f1 := fun h => hlast ((last_rd hne).1 h)
        refine ⟨false, S false ?_, I false ?_⟩
        · simp only [conv_45 hs, show ¬ ((45 : Int) = 43) by decide, if_false, if_true, hw, if_pos (show 0 ≤ (l'.length : Int) - 1 by omega), if_pos (show (l'.length : Int) - 1 < (l'.length : Int) by omega), conv_f1, if_neg hlast']
          exact Ev.now _
        · simp only [if_pos hs, hw, if_pos (show 0 ≤ (l'.length : Int) - 1 by omega), if_pos (show (l'.length : Int) - 1 < (l'.length : Int) by omega), if_neg hlast']
          exact Ev.now _
theorem nested_ev (a0 : ByteArray) (hs : a0.size ≤ 1048576) : ∃ r, Ev (fun k => spec_AreNested.f k a0) r ∧ Ev (fun k => impl_AreNested.f k a0) r := by
  obtain ⟨m, l, g, hm, hl⟩ := told_good a0
  obtain ⟨r, h1, h2⟩ := nested_go g (by omega) (toldOf a0).2.2 _ 0 0 [] (Nat.zero_add _) .nil
  refine ⟨r, ?_, ?_⟩
  · unfold spec_AreNested.f
    exact Ev.bind (l7Read_ev a0 hs) h1
  · unfold impl_AreNested.f
    simp only [told_f a0 hs, Option.bind_some, hm, lives_told g (show (toldOf a0).1.length ≤ 1000000 by omega)]
    exact h2
end Go.Proofs.YtlikgaohcnbocaaDoor.Pr
namespace Go.Proofs.YtlikgaohcnbocaaDoor.Pure
open Go.RowKit Go.Proofs.YtlikgaohcnbocaaDoorW.PrintWords Go.Proofs.YtlikgaohcnbocaaDoorW.PrintLast Go.Proofs.YtlikgaohcnbocaaDoorW.PrintMore
open Go.Proofs.YtlikgaohcnbocaaDoor.Pr
theorem FnExactAreNested : laws_FnExactAreNested.Pure := by
  intro a0 _
  by_cases hs : (a0.size : Int) > 1048576
  · exact ⟨0, by unfold laws_FnExactAreNested.f; rw [if_pos hs]⟩
  · obtain ⟨r, h1, h2⟩ := nested_ev a0 (by omega)
    refine Ev.rounds ?_
    unfold laws_FnExactAreNested.f
    simp only [if_neg hs]
    refine Ev.bind h1 (Ev.bind h2 ?_)
    simp only [bne_self_eq_false, Bool.false_eq_true, if_false]
    exact Ev.now _
end Go.Proofs.YtlikgaohcnbocaaDoor.Pure
