/- A small map of constants that a call makes and asks once: what it answers. -/
import Derived.Test.YtopgkaekbbaglaaIc
import Derived.Test.YtopgkaekbbaglaaPlainb
import Derived.Maps.OwnOps
import Derived.Maps.Views
namespace Go.Proofs.Ytopgkaekbbaglaa
open Go.RowKit Pl Go.Maps

theorem keyed5 : Keyed Try.prog 5 := int_keyed Try.underlying5
theorem zero3 (w : World) : (zeroValue 3).run Try.prog w = .ok (.int .i64 0) w := by kernel_rfl

/-- block B of W is a map of k entries at most that reads as D; all that stood in w stands -/
structure Made (w W : World) (B k : Nat) (D : DataW Unit) : Prop where
  base : w.heap.size ≤ B
  own : W.ownsMap Try.prog 5 (plainElem Try.prog 3) B k D
  grown : w.grownBy W none

theorem Made.start (w : World) : Made w (w.alloc (.map #[] 0)) w.heap.size 0 (.map []) :=
  ⟨Nat.le_refl _, World.ownsMap_made w _ _ _, World.grownBy_alloc w _ none⟩

theorem wpList_insert {ops : Array Oper} {rest : List Oper} {o : Oper} {a : Act} {Q : Exit → Act → World → Prop} {w W : World} {B k : Nat} {D : DataW Unit}
    (hg : o.guard = none) (m x v : Operand) (hop : o.op = Op.insert 88 m x v) (hm : a.eval m = .map (some B)) (h : Made w W B k D) (hk : k < 100) (key val : Int)
    (hx : a.eval x = .int .u8 key) (hv : a.eval v = .int .i64 val) (hkw : (Lit.int .u8 key).wf = true) (hvw : (Lit.int .i64 val).wf = true)
    (hK : ∀ W', Made w W' B (k + 1) (D.put (.int .u8 key) (.lit (.int .i64 val))) → wpList Try.prog ops Q rest (a.put o.dst undef) W') :
    wpList Try.prog ops Q (o :: rest) a W := by
  refine wpList_plain hg fun K' hK' => ?_
  obtain ⟨W', hrun, r1, r2⟩ := h.own.update keyed5 Try.underlying88 (by unfold maxLen; omega) (keyOf_int_mk Try.underlying5 hkw) (plainElem_int Try.underlying3 hvw)
  unfold Oper.wp
  simp [execOp, hop, hm, hx, hv, hrun, Result.andThen]
  refine hK' _ _ (hK W' ⟨h.base, r1, h.grown.andThen r2 ?_⟩)
  intro j hj
  cases hj
  exact .inl h.base

theorem wpList_asked {ops : Array Oper} {rest : List Oper} {o : Oper} {a : Act} {Q : Exit → Act → World → Prop} {w W : World} {B k : Nat} {D : DataW Unit}
    (hg : o.guard = none) (m x : Operand) (hop : o.op = Op.lookup 88 m x false) (hm : a.eval m = .map (some B)) (h : Made w W B k D) (key c : Int)
    (hx : a.eval x = .int .u8 key) (hkw : (Lit.int .u8 key).wf = true) (hc : D.atKey (.int .u8 key) (.lit (.int .i64 0)) = .lit (.int .i64 c))
    (hK : wpList Try.prog ops Q rest (a.put o.dst (.int .i64 c)) W) :
    wpList Try.prog ops Q (o :: rest) a W := by
  refine wpList_plain hg fun K' hK' => ?_
  obtain ⟨c', hrun, hat, _⟩ := h.own.lookup_int keyed5 Try.underlying88 Try.underlying3 (zero3 W) (keyOf_int_mk Try.underlying5 hkw)
  have e : c' = c := by
    rw [hc] at hat
    injection hat with hat
    injection hat with _ hat
    exact hat.symm
  subst e
  unfold Oper.wp
  simp [execOp, hop, hm, hx, hrun, Result.andThen]
  exact hK' _ _ hK

/-- a map of constants -/
def constMap (kvs : List (Int × Int)) : DataW Unit := kvs.foldl (fun D kv => D.put (.int .u8 kv.1) (.lit (.int .i64 kv.2))) (.map [])
def constAt (c : Int) (kvs : List (Int × Int)) : Int := kvs.foldl (fun r kv => if c = kv.1 then kv.2 else r) 0
theorem foldAt (c : Int) : ∀ (kvs : List (Int × Int)) (D : DataW Unit) (r : Int), IsMap D → D.atKey (.int .u8 c) (.lit (.int .i64 0)) = .lit (.int .i64 r) →
    (kvs.foldl (fun D kv => D.put (.int .u8 kv.1) (.lit (.int .i64 kv.2))) D).atKey (.int .u8 c) (.lit (.int .i64 0)) = .lit (.int .i64 (kvs.foldl (fun r kv => if c = kv.1 then kv.2 else r) r))
  | [], D, r, _, h => h
  | kv :: kvs, D, r, hD, h => by
    refine foldAt c kvs _ _ (hD.put _ _) ?_
    simp only []
    by_cases e : c = kv.1
    · rw [if_pos e, e]
      exact atKey_put_same (k := .int .u8 kv.1) hD (show True from trivial) _ _
    · rw [if_neg e]
      rw [atKey_put_other (by intro h'; injection h' with _ h'; exact e h')]
      exact h
theorem constMap_at (c : Int) (kvs : List (Int × Int)) : (constMap kvs).atKey (.int .u8 c) (.lit (.int .i64 0)) = .lit (.int .i64 (constAt c kvs)) :=
  foldAt c kvs (.map []) 0 isMap_empty rfl
theorem byte_eq (c d : UInt8) : ((c.toNat : Int) = (d.toNat : Int)) ↔ c = d := by
  constructor
  · intro h; exact UInt8.toNat_inj.1 (by omega)
  · rintro rfl; rfl
theorem many_at (c : UInt8) : constAt c.toNat [(43, 1), (61, 2), (46, 1), (45, 1), (126, 1)] = many c := by
  have h := byte_eq c
  have h1 := h 43; have h2 := h 61; have h3 := h 46; have h4 := h 45; have h5 := h 126
  simp at h1 h2 h3 h4 h5
  unfold constAt many
  simp only [List.foldl_cons, List.foldl_nil, h1, h2, h3, h4, h5]
  by_cases e5 : c = 126
  · simp [e5]
  by_cases e4 : c = 45
  · simp [e4]
  by_cases e3 : c = 46
  · simp [e3]
  by_cases e2 : c = 61
  · simp [e2]
  by_cases e1 : c = 43
  · simp [e1]
  simp [e1, e2, e3, e4, e5]
theorem brackets_at (c : UInt8) : constAt c.toNat [(63, 2), (42, 1)] = inBrackets c := by
  have h := byte_eq c
  have h1 := h 63; have h2 := h 42
  simp at h1 h2
  unfold constAt inBrackets
  simp only [List.foldl_cons, List.foldl_nil, h1, h2]
  by_cases e2 : c = 42
  · simp [e2]
  by_cases e1 : c = 63
  · simp [e1]
  simp [e1, e2]
end Go.Proofs.Ytopgkaekbbaglaa
