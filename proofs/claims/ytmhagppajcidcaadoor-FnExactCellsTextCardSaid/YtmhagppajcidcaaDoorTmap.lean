/- A map of whole numbers that a call makes, each entry true: what it answers. -/
import Derived.Test.YtmhagppajcidcaaDoorQ0
import Derived.Test.YtmhagppajcidcaaDoorLaid
import Derived.Maps.OwnOps
import Derived.Maps.OwnSet
import Derived.Maps.Views
import Derived.Lib.Hide
namespace Go.Proofs.YtmhagppajcidcaaDoor.Pr
open Go.RowKit Go.Maps

theorem keyed3 : Keyed Tryd.prog 3 := int_keyed Tryd.underlying3
theorem zero4 (w : World) : (zeroValue 4).run Tryd.prog w = .ok (.bool false) w := by kernel_rfl
/-- block B is a map of at most n entries, in which just the numbers of L are true -/
def AliveMap (w : World) (B n : Nat) (L : List Int) : Prop :=
  ∃ D : DataW Unit, w.ownsMap Tryd.prog 3 (plainElem Tryd.prog 4) B n D ∧ IsMap D ∧ ∀ x : Int, D.atKey (.int .i64 x) (.lit (.bool false)) = .lit (.bool (decide (x ∈ L)))
theorem AliveMap.start (w : World) : AliveMap (w.alloc (.map #[] 0)) w.heap.size 0 [] := ⟨.map [], World.ownsMap_made w _ _ _, isMap_empty, fun x => by simp; rfl⟩
theorem AliveMap.lt {w : World} {B n : Nat} {L : List Int} (h : AliveMap w B n L) : B < w.heap.size := by
  obtain ⟨D, h1, _⟩ := h
  exact h1.lt
theorem AliveMap.kept {w w' : World} {B n : Nat} {L : List Int} (h : AliveMap w B n L) (hb : w'.heap[B]? = w.heap[B]?) : AliveMap w' B n L := by
  obtain ⟨D, ⟨es, clock, h1, h2⟩, h3⟩ := h
  exact ⟨D, ⟨es, clock, by rw [hb]; exact h1, h2⟩, h3⟩
theorem AliveMap.isMapObj {w : World} {B n : Nat} {L : List Int} (h : AliveMap w B n L) : ∃ es clock, w.heap[B]? = some (.map es clock) := by
  obtain ⟨D, ⟨es, clock, h1, _⟩, _⟩ := h
  exact ⟨es, clock, h1⟩
theorem int_key {x : Int} (hx : (Lit.int .i64 x).wf = true) : keyOf Tryd.prog 3 (.int .i64 x) = some (.int .i64 x) := keyOf_int_mk Tryd.underlying3 hx
set_option maxRecDepth 100000 in
theorem AliveMap.look {w : World} {B n : Nat} {L : List Int} (h : AliveMap w B n L) {x : Int} (hx : (Lit.int .i64 x).wf = true) : (Instr.lookup 48 (.map (some B)) (.int .i64 x) false).run Tryd.prog w = .ok (.bool (decide (x ∈ L))) w := by
  obtain ⟨D, h1, h2, h3⟩ := h
  obtain ⟨v, ps, hrun, hv⟩ := h1.lookup keyed3 Tryd.underlying48 (zero4 w) (plainElem_bool (H := Unit) Tryd.underlying4 false) (int_key hx)
  rw [h3 x] at hv
  have : v = .bool (decide (x ∈ L)) := by
    unfold plainElem at hv
    rw [Tryd.underlying4] at hv
    cases v with
    | bool b =>
      simp only [Option.some.injEq, Prod.mk.injEq, DataW.lit.injEq, Lit.bool.injEq] at hv
      rw [hv.1]
    | _ => simp at hv
  rw [hrun, this]
section
variable {ops : Array Oper} {rest : List Oper} {o : Oper} {a : Act} {Q : Exit → Act → World → Prop}
set_option maxRecDepth 100000 in
theorem wpList_born {W : World} {B n : Nat} {L : List Int} (hg : o.guard = none) (m x v : Operand) (hop : o.op = Op.mapUpdate 48 m x v) (hm : a.eval m = .map (some B)) (h : AliveMap W B n L) (hn : n < 1000000) (key : Int)
    (hx : a.eval x = .int .i64 key) (hv : a.eval v = .bool true) (hkw : (Lit.int .i64 key).wf = true)
    (hK : ∀ W', AliveMap W' B (n + 1) (L ++ [key]) → W.grownBy W' (some B) → wpList Tryd.prog ops Q rest (a.put o.dst undef) W') : wpList Tryd.prog ops Q (o :: rest) a W := by
  obtain ⟨D, h1, h2, h3⟩ := h
  refine wpList_mapUpdate_own W hg m x v 48 hop 3 4 keyed3 Tryd.underlying48 (plainElem Tryd.prog 4) B n D hm h1 (by unfold maxLen; omega) _ _ _ hx hv (int_key hkw) (.lit (.bool true)) [] (plainElem_bool Tryd.underlying4 true) ?_
  intro W' h1' hg'
  refine hK W' ⟨_, h1', h2.put _ _, fun y => ?_⟩ hg'
  by_cases hy : y = key
  · subst hy
    rw [atKey_put_same h2 (by exact trivial)]
    simp
  · rw [atKey_put_other (by intro e; injection e with _ e; exact hy e), h3 y]
    simp [hy]
set_option maxRecDepth 100000 in
theorem wpList_dead {W : World} {B n : Nat} {L : List Int} (hg : o.guard = none) (m x : Operand) (hop : o.op = Op.call { callee := Callee.builtin Builtin.delete, args := #[m, x], argTypes := #[48, 3] }) (hm : a.eval m = .map (some B)) (h : AliveMap W B n L) (key : Int)
    (hx : a.eval x = .int .i64 key) (hkw : (Lit.int .i64 key).wf = true)
    (hK : ∀ W', AliveMap W' B n (L.filter (fun y => y != key)) → W.grownBy W' (some B) → wpList Tryd.prog ops Q rest (a.put o.dst (.tuple #[])) W') : wpList Tryd.prog ops Q (o :: rest) a W := by
  obtain ⟨D, h1, h2, h3⟩ := h
  refine wpList_delete_own _ hg m x 48 3 hop 4 keyed3 Tryd.underlying48 (plainElem Tryd.prog 4) B n D hm h1 _ _ hx (int_key hkw) ?_
  intro W' h1' hg'
  refine hK W' ⟨_, h1', h2.del _, fun y => ?_⟩ hg'.grown
  by_cases hy : y = key
  · subst hy
    rw [atKey_del_same]
    simp
  · rw [atKey_del_other (by intro e; injection e with _ e; exact hy e), h3 y]
    simp [hy]
end
end Go.Proofs.YtmhagppajcidcaaDoor.Pr
