/- All steps of a program, in the order in which they begin: the program's walk over a tree, its closure. -/
import Derived.Test.YtopgkaekbbaglaaDb
import Derived.Test.YtopgkaekbbaglaaPlaine
namespace Go.Proofs.Ytopgkaekbbaglaa
open Go.RowKit Pl

/-- a later world: all but some blocks are as they were -/
structure Kp (w w' : World) (S : Nat → Prop) : Prop where
  os : w'.os = w.os
  tape : w'.tape = w.tape
  output : w'.output = w.output
  size : w.heap.size ≤ w'.heap.size
  block : ∀ k, k < w.heap.size → ¬ S k → w'.heap[k]? = w.heap[k]?
theorem Kp.refl (w : World) (S : Nat → Prop) : Kp w w S := ⟨rfl, rfl, rfl, Nat.le_refl _, fun _ _ _ => rfl⟩
theorem Kp.of_grown {w w' : World} {r : Option Nat} (h : w.grownBy w' r) : Kp w w' (fun k => r = some k) := ⟨h.os, h.tape, h.output, h.size, fun k hk hn => h.block k hk (fun e => hn e.symm)⟩
theorem Kp.of_below {w w' : World} (h : Below w.heap.size w w') (S : Nat → Prop) : Kp w w' S := ⟨h.os, h.tape, h.output, h.size, fun k hk _ => h.block k hk⟩
theorem Kp.trans {w w1 w2 : World} {S S' : Nat → Prop} (h : Kp w w1 S) (k : Kp w1 w2 S') (hs : ∀ j, j < w.heap.size → S' j → S j) : Kp w w2 S :=
  ⟨k.os.trans h.os, k.tape.trans h.tape, k.output.trans h.output, Nat.le_trans h.size k.size, fun j hj hn => (k.block j (Nat.lt_of_lt_of_le hj h.size) (fun hs' => hn (hs j hj hs'))).trans (h.block j hj hn)⟩
theorem Kp.mono {w w' : World} {S S' : Nat → Prop} (h : Kp w w' S) (hs : ∀ k, S k → S' k) : Kp w w' S' := ⟨h.os, h.tape, h.output, h.size, fun k hk hn => h.block k hk (fun e => hn (hs k e))⟩
theorem Kp.below {w w' : World} {S : Nat → Prop} (h : Kp w w' S) (hs : ∀ j, j < w.heap.size → ¬ S j) : Below w.heap.size w w' := ⟨h.os, h.tape, h.output, h.size, fun j hj => h.block j hj (hs j hj)⟩

/-- steps at these pointers -/
def Nodes (w : World) (ok : Nat → Prop) : List Inf → List Value → Prop
  | [], ps => ps = []
  | i :: l, ps => ∃ (g : Nat) (A : Option Addr) (n c : Nat) (rest : List Value), ps = .pointer (some ⟨g, 0, none⟩) :: rest ∧ ok g ∧
      w.heap[g]? = some (.cells #[.int .u8 i.kind.toNat, .int .i64 i.at_, .int .i64 i.end_, .string i.vars, .string i.scope, .slice A n c] 60 (0, 0)) ∧ Nodes w ok l rest
theorem Nodes.keep {w w' : World} {ok : Nat → Prop} (hk : ∀ j, ok j → j < w.heap.size → w'.heap[j]? = w.heap[j]?) : ∀ {l : List Inf} {ps : List Value}, Nodes w ok l ps → Nodes w' ok l ps
  | [], _, h => h
  | i :: l, _, h => by
    obtain ⟨g, A, n, c, rest, e, hg, hh, hr⟩ := h
    exact ⟨g, A, n, c, rest, e, hg, by rw [hk g hg (Array.getElem?_eq_some_iff.1 hh).1]; exact hh, hr.keep hk⟩
theorem Nodes.mono {w : World} {ok ok' : Nat → Prop} (hk : ∀ j, ok j → ok' j) : ∀ {l : List Inf} {ps : List Value}, Nodes w ok l ps → Nodes w ok' l ps
  | [], _, h => h
  | i :: l, _, h => by
    obtain ⟨g, A, n, c, rest, e, hg, hh, hr⟩ := h
    exact ⟨g, A, n, c, rest, e, hk g hg, hh, hr.mono hk⟩
theorem Nodes.append {w : World} {ok : Nat → Prop} {l' : List Inf} {qs : List Value} (h' : Nodes w ok l' qs) : ∀ {l : List Inf} {ps : List Value}, Nodes w ok l ps → Nodes w ok (l ++ l') (ps ++ qs)
  | [], ps, h => by
    have : ps = [] := h
    subst this
    exact h'
  | i :: l, _, h => by
    obtain ⟨g, A, n, c, rest, e, hg, hh, hr⟩ := h
    subst e
    exact ⟨g, A, n, c, rest ++ qs, rfl, hg, hh, Nodes.append h' hr⟩
theorem Nodes.length {w : World} {ok : Nat → Prop} : ∀ {l : List Inf} {ps : List Value}, Nodes w ok l ps → ps.length = l.length
  | [], ps, h => by
    have : ps = [] := h
    subst this
    rfl
  | i :: l, _, h => by
    obtain ⟨g, A, n, c, rest, e, hg, hh, hr⟩ := h
    subst e
    simp [hr.length]
/-- one of the steps -/
theorem Nodes.at {w : World} {ok : Nat → Prop} : ∀ {l : List Inf} {ps : List Value}, Nodes w ok l ps → ∀ {k : Nat} (hk : k < l.length),
    ∃ (g : Nat) (A : Option Addr) (n c : Nat), ps[k]? = some (.pointer (some ⟨g, 0, none⟩)) ∧ ok g ∧ w.heap[g]? = some (.cells #[.int .u8 (l[k]).kind.toNat, .int .i64 (l[k]).at_, .int .i64 (l[k]).end_, .string (l[k]).vars, .string (l[k]).scope, .slice A n c] 60 (0, 0))
  | [], _, _, k, hk => by simp at hk
  | i :: l, _, h, k, hk => by
    obtain ⟨g, A, n, c, rest, e, hg, hh, hr⟩ := h
    subst e
    cases k with
    | zero => exact ⟨g, A, n, c, rfl, hg, hh⟩
    | succ k =>
      obtain ⟨g', A', n', c', e', hg', hh'⟩ := Nodes.at hr (k := k) (by simpa using hk)
      exact ⟨g', A', n', c', by simpa using e', hg', by simpa using hh'⟩

/-! ### what walk is handed: a function that appends -/
def SeePost (w : World) (C : Nat) (v : Value) (xs : List Value) (y : Value) (e : Ending) (w' : World) : Prop :=
  e = .returned (.tuple #[]) ∧ ∃ v1, w'.heap[C]? = some (.cells #[v1] 56 (0, 0)) ∧ some C ≠ v1.ownBlock ∧ Own w' (fun k => v.ownBlock = some k ∨ w.heap.size ≤ k) 49 v1 (xs ++ [y]) ∧ Kp w w' (fun k => k = C ∨ v.ownBlock = some k)
theorem Own.form' {w : World} {ok : Nat → Prop} {e : TypeId} {v : Value} {xs : List Value} (h : Own w ok e v xs) : ∃ A n c, v = .slice A n c := by
  obtain ⟨A, c, hf⟩ := h.form
  exact ⟨A, _, c, hf⟩
theorem see_end {w w1 : World} {C : Nat} {v v1 : Value} {xs : List Value} {y : Value} (hC : w.heap[C]? = some (.cells #[v] 56 (0, 0))) (hCv : some C ≠ v.ownBlock)
    (ho : Own w1 (fun k => v.ownBlock = some k ∨ w.heap.size ≤ k) 49 v1 (xs ++ [y])) (hg : w.grownBy w1 v.ownBlock) : SeePost w C v xs y (.returned (.tuple #[])) (w1.setCell ⟨C, 0, none⟩ v1) := by
  have hlt : C < w.heap.size := (Array.getElem?_eq_some_iff.1 hC).1
  have hC1 : w1.heap[C]? = some (.cells #[v] 56 (0, 0)) := (hg.block C hlt hCv).trans hC
  have hne : some C ≠ v1.ownBlock := fun e => by
    rcases ho.let_ C e.symm with h | h
    · exact hCv h.symm
    · omega
  refine ⟨rfl, v1, ?_, hne, ho.kept (grown_set w1 C 0 v1) (fun j hj e => ?_), ?_⟩
  · simp [World.setCell, Array.getElem?_modify, hC1]
  · injection e with e
    subst e
    rcases hj with h | h
    · exact hCv h.symm
    · omega
  · exact ((Kp.of_grown hg).mono (fun k hk => .inr hk)).trans (Kp.of_grown (grown_set w1 C 0 v1)) (fun j _ hs => .inl (by injection hs with hs; exact hs.symm))
set_option maxHeartbeats 800000 in
theorem see_any (w : World) (C : Nat) (okv : Nat → Prop) (v : Value) (xs : List Value) (y : Option Addr) (hC : w.heap[C]? = some (.cells #[v] 56 (0, 0))) (hCv : some C ≠ v.ownBlock) (hO : Own w okv 49 v xs) (hl : (xs.length + 1) * 8 ≤ 140737488355328) :
    Calls Try.prog 60 #[.pointer y, .pointer (some ⟨C, 0, none⟩)] w (SeePost w C v xs (.pointer y)) := by
  obtain ⟨A, n, c, rfl⟩ := hO.form'
  have hc0 := cell_of_one hC
  have HC := Lib.hid hC
  have HO := Lib.hid hO
  have HV := Lib.hid hCv
  have hlt : C < w.heap.size := (Array.getElem?_eq_some_iff.1 hC).1
  clear hC hO hCv
  go_enter Try.func60, Try.ntmps60
  go_wp2_with (at_builtin; refine wpList_app1 rfl _ _ 56 49 (.pointer none) 8 rfl Try.underlying56 info49 rfl (by decide) (.slice A n c) xs (.pointer y) rfl rfl rfl HO.out hl ?_)
  intro v1 w1 ho hg
  obtain ⟨g1, c1, rfl⟩ := ho.form1 (by simp)
  have hC1 : w1.heap[C]? = some (.cells #[.slice A n c] 56 (0, 0)) := (hg.block C hlt HV.out).trans HC.out
  have hc1 := cell_of_one hC1
  have hf1 := free_of_one hC1
  have X1 := Lib.hid hC1
  rw [show (xs ++ [Value.pointer y]).length = xs.length + 1 by simp] at ho ⊢
  have X2 := Lib.hid ho
  have X3 := Lib.hid hg
  clear hC1 ho hg hc0
  go_wp2_with fail
  go_end0
  exact see_end HC.out HV.out X2.out X3.out
end Go.Proofs.Ytopgkaekbbaglaa
