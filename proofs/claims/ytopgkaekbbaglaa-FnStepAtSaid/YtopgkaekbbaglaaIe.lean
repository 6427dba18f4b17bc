/- How the trees that the program's reader makes lie in memory; rows of the call's own. -/
import Derived.Test.YtopgkaekbbaglaaId
namespace Go.Proofs.Ytopgkaekbbaglaa
open Go.RowKit Pl

/-- a row of the call's own, one cell an element, in a block that is let -/
structure Own (w : World) (ok : Nat → Prop) (e : TypeId) (v : Value) (xs : List Value) : Prop where
  row : w.ownsRow 0 e 1 v xs.length xs
  let_ : ∀ k, v.ownBlock = some k → ok k

theorem Own.keep {w w' : World} {ok : Nat → Prop} {e : TypeId} {v : Value} {xs : List Value} (h : Own w ok e v xs) (hk : ∀ j, ok j → j < w.heap.size → w'.heap[j]? = w.heap[j]?) : Own w' ok e v xs := by
  refine ⟨⟨h.row.1, ?_⟩, h.let_⟩
  rcases h.row.2 with hn | ⟨g, cap, cur, hv, hb, hg, r⟩
  · exact .inl hn
  · refine .inr ⟨g, cap, cur, hv, hb, ?_, r⟩
    rw [hk g (h.let_ g (by rw [hv]; rfl)) (Array.getElem?_eq_some_iff.1 hg).1]
    exact hg
theorem Own.mono {w : World} {ok ok' : Nat → Prop} {e : TypeId} {v : Value} {xs : List Value} (h : Own w ok e v xs) (hk : ∀ j, ok j → ok' j) : Own w ok' e v xs := ⟨h.row, fun k hv => hk k (h.let_ k hv)⟩
theorem Own.bound {w : World} {ok : Nat → Prop} {e : TypeId} {v : Value} {xs : List Value} (h : Own w ok e v xs) : Own w (fun j => ok j ∧ j < w.heap.size) e v xs :=
  ⟨h.row, fun k hv => ⟨h.let_ k hv, (h.row.lt k hv).2⟩⟩
theorem Own.nil (w : World) (ok : Nat → Prop) (e : TypeId) : Own w ok e (.slice none 0 0) [] := ⟨World.ownsRow_nil w 0 e 1, fun k hk => by simp [Value.ownBlock] at hk⟩

theorem Own.form {w : World} {ok : Nat → Prop} {e : TypeId} {v : Value} {xs : List Value} (h : Own w ok e v xs) : ∃ A c, v = .slice A xs.length c := by
  rcases h.row.2 with ⟨hv, hn⟩ | ⟨g, cap, cur, hv, _⟩
  · exact ⟨none, 0, by rw [hv, hn]⟩
  · exact ⟨_, cap, hv⟩
/-- pointers to steps, each with all that stands within it -/
def PCells (w : World) (ok : Nat → Prop) : T → List Value → Prop
  | .nil, cs => cs = []
  | .cons i b0 b1 r, cs => ∃ (g : Nat) (bs v0 v1 : Value) (rest c0 c1 : List Value), cs = .pointer (some ⟨g, 0, none⟩) :: rest ∧ ok g ∧
      w.heap[g]? = some (.cells #[.int .u8 i.kind.toNat, .int .i64 i.at_, .int .i64 i.end_, .string i.vars, .string i.scope, bs] 60 (0, 0)) ∧
      PCells w ok b0 c0 ∧ Own w ok 49 v0 c0 ∧ PCells w ok b1 c1 ∧ Own w ok 49 v1 c1 ∧
      i.nb ≤ 2 ∧ Own w ok 56 bs ([v0, v1].take i.nb) ∧ PCells w ok r rest

theorem PCells.keep {w w' : World} {ok : Nat → Prop} (hk : ∀ j, ok j → j < w.heap.size → w'.heap[j]? = w.heap[j]?) : ∀ {t : T} {cs : List Value}, PCells w ok t cs → PCells w' ok t cs
  | .nil, _, h => h
  | .cons i b0 b1 r, _, h => by
    obtain ⟨g, bs, v0, v1, rest, c0, c1, e, hg, hh, h0, o0, h1, o1, hn, ob, hr⟩ := h
    exact ⟨g, bs, v0, v1, rest, c0, c1, e, hg, by rw [hk g hg (Array.getElem?_eq_some_iff.1 hh).1]; exact hh, h0.keep hk, o0.keep hk, h1.keep hk, o1.keep hk, hn, ob.keep hk, hr.keep hk⟩
theorem PCells.mono {w : World} {ok ok' : Nat → Prop} (hk : ∀ j, ok j → ok' j) : ∀ {t : T} {cs : List Value}, PCells w ok t cs → PCells w ok' t cs
  | .nil, _, h => h
  | .cons i b0 b1 r, _, h => by
    obtain ⟨g, bs, v0, v1, rest, c0, c1, e, hg, hh, h0, o0, h1, o1, hn, ob, hr⟩ := h
    exact ⟨g, bs, v0, v1, rest, c0, c1, e, hk g hg, hh, h0.mono hk, o0.mono hk, h1.mono hk, o1.mono hk, hn, ob.mono hk, hr.mono hk⟩
theorem PCells.bound {w : World} {ok : Nat → Prop} : ∀ {t : T} {cs : List Value}, PCells w ok t cs → PCells w (fun j => ok j ∧ j < w.heap.size) t cs
  | .nil, _, h => h
  | .cons i b0 b1 r, _, h => by
    obtain ⟨g, bs, v0, v1, rest, c0, c1, e, hg, hh, h0, o0, h1, o1, hn, ob, hr⟩ := h
    exact ⟨g, bs, v0, v1, rest, c0, c1, e, ⟨hg, (Array.getElem?_eq_some_iff.1 hh).1⟩, hh, h0.bound, o0.bound, h1.bound, o1.bound, hn, ob.bound, hr.bound⟩
theorem PCells.append {w : World} {ok : Nat → Prop} {u : T} {ds : List Value} (hu : PCells w ok u ds) : ∀ {t : T} {cs : List Value}, PCells w ok t cs → PCells w ok (t.append u) (cs ++ ds)
  | .nil, cs, h => by
    have : cs = [] := h
    subst this
    exact hu
  | .cons i b0 b1 r, _, h => by
    obtain ⟨g, bs, v0, v1, rest, c0, c1, e, hg, hh, h0, o0, h1, o1, hn, ob, hr⟩ := h
    subst e
    exact ⟨g, bs, v0, v1, rest ++ ds, c0, c1, rfl, hg, hh, h0, o0, h1, o1, hn, ob, PCells.append hu hr⟩
theorem PCells.length {w : World} {ok : Nat → Prop} : ∀ {t : T} {cs : List Value}, PCells w ok t cs → cs.length = t.len
  | .nil, cs, h => by
    have : cs = [] := h
    subst this
    rfl
  | .cons i b0 b1 r, _, h => by
    obtain ⟨g, bs, v0, v1, rest, c0, c1, e, hg, hh, h0, o0, h1, o1, hn, ob, hr⟩ := h
    subst e
    simp [T.len, hr.length]

section
variable {P : Program} {ops : Array Oper} {rest : List Oper} {o : Oper} {a : Act} {Q : Exit → Act → World → Prop}
/-- append of one element of one cell to a row of the call's own -/
theorem wpList_app1 {W : World} {ok : Nat → Prop} (hgd : o.guard = none) (s x : Operand) (t e : TypeId) (z : Value) (bytes : Nat)
    (ho : o.op = .call { callee := .builtin .append, args := #[s, x], argTypes := #[t, t] })
    (ht : P.underlying t = some (.slice e)) (hinfo : (P.info? e).map (fun i => (i.zero, i.size, i.bytes)) = some (some z, 1, bytes)) (hz : z.cells.size = 1) (hb0 : 0 < bytes)
    (v : Value) (xs : List Value) (y : Value) (hs : a.eval s = v) (hx : a.eval x = .slice (some ⟨W.heap.size, 0, none⟩) 1 1) (h1 : y.oneCell' = true)
    (HO : Own W ok e v xs) (hl : (xs.length + 1) * bytes ≤ 140737488355328)
    (h : ∀ v1 w1, Own w1 (fun k => v.ownBlock = some k ∨ W.heap.size ≤ k) e v1 (xs ++ [y]) → W.grownBy w1 v.ownBlock → wpList P ops Q rest (a.put o.dst v1) w1) :
    wpList P ops Q (o :: rest) a (W.alloc (.cells #[y] e)) := by
  obtain ⟨i0, hi, hzz⟩ := Option.map_eq_some_iff.1 hinfo
  simp only [Prod.mk.injEq] at hzz
  obtain ⟨hz0, hz1, hz2⟩ := hzz
  have hlen : xs.length + 1 ≤ 140737488355328 := Nat.le_trans (Nat.le_mul_of_pos_right _ hb0) hl
  refine wpList_append_own_at (W.alloc (.cells #[y] e)) hgd s x t ho 0 e i0 z 1 bytes ht hi hz0 hz1 hz2 hz (by omega) v xs.length xs hs (HO.row.alloc _) ⟨W.heap.size, 0, none⟩ 1 1 [y] hx rfl
    (cell_one_new W y e) (by simpa using h1) (by simp only [maxLen]; omega) hl (Nat.zero_le _) ?_
  intro v1 w1 hown hg _ hat
  refine h v1 w1 ⟨by simpa using hown, fun k hk => ?_⟩ (World.grownBy.trans (World.grownBy_alloc W _ _) hg)
  rcases hat with hat | hat
  · exact .inl (hat ▸ hk)
  · rw [hat] at hk
    cases hk
    exact .inr (by simp)
end
end Go.Proofs.Ytopgkaekbbaglaa
