/- The contract of the reference's reader of one step: its head, its end, steps without a body. -/
import Derived.Test.YtopgkaekbbaglaaSc
import Derived.Deep.DeepCutAuto
import Derived.Deep.CutBlock
import Derived.Deep.RegionHeld3
import Derived.Deep.RegionLaw
namespace Go.Proofs.Ytopgkaekbbaglaa
open Go.RowKit Pl

/-- a step's six cells lie at this block -/
def SNode (w : World) (g : Nat) (k : UInt8) (n en : Nat) (vs : ByteArray) (bs : Value) (sc : ByteArray) : Prop := w.heap[g]? = some (.cells #[.int .u8 k.toNat, .int .i64 n, .int .i64 en, .string vs, bs, .string sc] 46 (0, 0))
section
variable {w w' : World} {g : Nat} {k : UInt8} {n en : Nat} {vs sc : ByteArray} {bs : Value}
theorem SNode.c0 (h : SNode w g k n en vs bs sc) : w.cell? ⟨g, 0, none⟩ = some (.int .u8 k.toNat) := by simp [World.cell?, show w.heap[g]? = _ from h]
theorem SNode.c1 (h : SNode w g k n en vs bs sc) : w.cell? ⟨g, 1, none⟩ = some (.int .i64 n) := by simp [World.cell?, show w.heap[g]? = _ from h]
theorem SNode.c2 (h : SNode w g k n en vs bs sc) : w.cell? ⟨g, 2, none⟩ = some (.int .i64 en) := by simp [World.cell?, show w.heap[g]? = _ from h]
theorem SNode.c3 (h : SNode w g k n en vs bs sc) : w.cell? ⟨g, 3, none⟩ = some (.string vs) := by simp [World.cell?, show w.heap[g]? = _ from h]
theorem SNode.c4 (h : SNode w g k n en vs bs sc) : w.cell? ⟨g, 4, none⟩ = some bs := by simp [World.cell?, show w.heap[g]? = _ from h]
theorem SNode.c5 (h : SNode w g k n en vs bs sc) : w.cell? ⟨g, 5, none⟩ = some (.string sc) := by simp [World.cell?, show w.heap[g]? = _ from h]
theorem SNode.fz (h : SNode w g k n en vs bs sc) (i : Nat) : w.frozen? ⟨g, i, none⟩ = false := by simp [World.frozen?, show w.heap[g]? = _ from h]
theorem SNode.lt (h : SNode w g k n en vs bs sc) : g < w.heap.size := (Array.getElem?_eq_some_iff.1 h).1
theorem SNode.grown (h : SNode w g k n en vs bs sc) {r : Option Nat} (hg : w.grownBy w' r) (hr : some g ≠ r) : SNode w' g k n en vs bs sc := (hg.block g h.lt hr).trans h
theorem SNode.far (h : SNode w g k n en vs bs sc) {b i : Nat} (hb : g ≠ b) (v : Value) : SNode (w.setCell ⟨b, i, none⟩ v) g k n en vs bs sc := (Below.heap_setCell w _ v g hb).trans h
theorem SNode.drewN (h : SNode w g k n en vs bs sc) (m : Nat) : SNode (w.drewN m) g k n en vs bs sc := h
theorem SNode.setEnd (h : SNode w g k n en vs bs sc) (m : Nat) : SNode (w.setCell ⟨g, 2, none⟩ (.int .i64 m)) g k n m vs bs sc := by
  have h' : w.heap[g]? = _ := h
  simp [SNode, World.setCell, Array.getElem?_modify, h']
theorem SNode.setVars (h : SNode w g k n en vs bs sc) (m : ByteArray) : SNode (w.setCell ⟨g, 3, none⟩ (.string m)) g k n en m bs sc := by
  have h' : w.heap[g]? = _ := h
  simp [SNode, World.setCell, Array.getElem?_modify, h']
theorem SNode.setBodies (h : SNode w g k n en vs bs sc) (m : Value) : SNode (w.setCell ⟨g, 4, none⟩ m) g k n en vs m sc := by
  have h' : w.heap[g]? = _ := h
  simp [SNode, World.setCell, Array.getElem?_modify, h']
end

/-- behind the head: the step's cells are made, the reader stands where it stood -/
def SHead (w : World) (b : Nat) (p ar : ByteArray) (s : RS) (v5 : Value) (w1 : World) : Prop :=
  ∃ g gb, v5 = .pointer (some ⟨g, 0, none⟩) ∧ SRd w1 b p s ∧ w.grownBy w1 (some b) ∧ SNode w1 g (bAt p s.at_) s.at_ 0 ByteArray.empty (.slice (some ⟨gb, 0, none⟩) 0 0) ar ∧ w.heap.size < g ∧ w.heap.size < gb ∧ gb ≠ g ∧
    SNode w1 w.heap.size 0 0 0 ByteArray.empty (.slice none 0 0) ByteArray.empty ∧ w1.heap[gb]? = some (.cells #[] 54 (0, 0))

theorem heap_alloc_old (W : World) (o o' : Obj) : ((W.alloc o).alloc o').heap[W.heap.size]? = some o := ((World.grownBy_alloc (W.alloc o) o' none).block W.heap.size (by simp) (by simp)).trans (heap_alloc_new W o)
theorem heap_alloc_next (W : World) (o o' : Obj) : ((W.alloc o).alloc o').heap[W.heap.size + 1]? = some o' := by
  have h := heap_alloc_new (W.alloc o) o'
  simpa using h
theorem shead1 {w W0 : World} {b : Nat} {p ar : ByteArray} {s : RS} (hn : s.at_ < p.size) (hW : w.alloc (.cells #[.int .u8 0, .int .i64 0, .int .i64 0, .string { data := #[] }, .slice none 0 0, .string { data := #[] }] 46) = W0)
    (hr : SRd ((W0.alloc (.cells #[] 54)).alloc (.cells #[.int .u8 (p[s.at_]'hn).toNat, .int .i64 s.at_, .int .i64 0, .string { data := #[] }, .slice (some ⟨W0.heap.size, 0, none⟩) 0 0, .string ar] 46)) b p s) :
    SHead w b p ar s (.pointer (some ⟨W0.heap.size + 1, 0, none⟩)) ((W0.alloc (.cells #[] 54)).alloc (.cells #[.int .u8 (p[s.at_]'hn).toNat, .int .i64 s.at_, .int .i64 0, .string { data := #[] }, .slice (some ⟨W0.heap.size, 0, none⟩) 0 0, .string ar] 46)).drew := by
  have hs : W0.heap.size = w.heap.size + 1 := by rw [← hW]; simp
  have hg0 : w.grownBy W0 (some b) := by rw [← hW]; exact World.grownBy_alloc w _ _
  have hg : W0.grownBy ((W0.alloc (.cells #[] 54)).alloc (.cells #[.int .u8 (p[s.at_]'hn).toNat, .int .i64 s.at_, .int .i64 0, .string { data := #[] }, .slice (some ⟨W0.heap.size, 0, none⟩) 0 0, .string ar] 46)) none := World.grownBy.trans (World.grownBy_alloc W0 _ _) (World.grownBy_alloc _ _ _)
  refine ⟨W0.heap.size + 1, W0.heap.size, rfl, hr.drewN 1, ?_, ?_, by omega, by omega, by omega, ?_, ?_⟩
  · exact World.grownBy.trans (hg0.andThen hg (fun j hj => by cases hj)) (grown_drewN _ 1 _)
  · rw [← bAt_get hn]
    exact heap_alloc_next W0 _ _
  · show ((W0.alloc _).alloc _).heap[w.heap.size]? = _
    rw [hg.block _ (by omega) (by simp), ← hW]
    exact heap_alloc_new w _
  · exact heap_alloc_old W0 _ _
theorem shead2 {w W0 : World} {b : Nat} {p ar : ByteArray} {s : RS} (hn : s.at_ < p.size) (hW : w.alloc (.cells #[.int .u8 0, .int .i64 0, .int .i64 0, .string { data := #[] }, .slice none 0 0, .string { data := #[] }] 46) = W0)
    (hr : SRd ((W0.alloc (.cells #[.int .u8 (p[s.at_]'hn).toNat, .int .i64 s.at_, .int .i64 0, .string { data := #[] }, .slice (some ⟨W0.heap.size + 1, 0, none⟩) 0 0, .string ar] 46)).alloc (.cells #[] 54)) b p s) :
    SHead w b p ar s (.pointer (some ⟨W0.heap.size, 0, none⟩)) ((W0.alloc (.cells #[.int .u8 (p[s.at_]'hn).toNat, .int .i64 s.at_, .int .i64 0, .string { data := #[] }, .slice (some ⟨W0.heap.size + 1, 0, none⟩) 0 0, .string ar] 46)).alloc (.cells #[] 54)).drew := by
  have hs : W0.heap.size = w.heap.size + 1 := by rw [← hW]; simp
  have hg0 : w.grownBy W0 (some b) := by rw [← hW]; exact World.grownBy_alloc w _ _
  have hg : W0.grownBy ((W0.alloc (.cells #[.int .u8 (p[s.at_]'hn).toNat, .int .i64 s.at_, .int .i64 0, .string { data := #[] }, .slice (some ⟨W0.heap.size + 1, 0, none⟩) 0 0, .string ar] 46)).alloc (.cells #[] 54)) none := World.grownBy.trans (World.grownBy_alloc W0 _ _) (World.grownBy_alloc _ _ _)
  refine ⟨W0.heap.size, W0.heap.size + 1, rfl, hr.drewN 1, ?_, ?_, by omega, by omega, by omega, ?_, ?_⟩
  · exact World.grownBy.trans (hg0.andThen hg (fun j hj => by cases hj)) (grown_drewN _ 1 _)
  · rw [← bAt_get hn]
    exact heap_alloc_old W0 _ _
  · show ((W0.alloc _).alloc _).heap[w.heap.size]? = _
    rw [hg.block _ (by omega) (by simp), ← hW]
    exact heap_alloc_new w _
  · exact heap_alloc_next W0 _ _

/-- behind the switch: all but the end is laid in the step's cells -/
def SMid (w : World) (b : Nat) (p ar : ByteArray) (s : RS) (g : Nat) (w2 : World) : Prop := ∃ bs v0 v1 c0 c1,
  SRd w2 b p (SStep p ar s).2.2.2 ∧ w.grownBy w2 (some b) ∧ SNode w2 g (SStep p ar s).1.kind (SStep p ar s).1.at_ 0 (SStep p ar s).1.vars bs (SStep p ar s).1.scope ∧
  SNode w2 w.heap.size 0 0 0 ByteArray.empty (.slice none 0 0) ByteArray.empty ∧
  SCells w2 (fun j => w.heap.size < j ∧ j ≠ g) (SStep p ar s).2.1 c0 ∧ Own6 w2 (fun j => w.heap.size < j ∧ j ≠ g) v0 (SStep p ar s).2.1.len c0 ∧
  SCells w2 (fun j => w.heap.size < j ∧ j ≠ g) (SStep p ar s).2.2.1 c1 ∧ Own6 w2 (fun j => w.heap.size < j ∧ j ≠ g) v1 (SStep p ar s).2.2.1.len c1 ∧
  (SStep p ar s).1.nb ≤ 2 ∧ Own w2 (fun j => w.heap.size < j ∧ j ≠ g) 54 bs ([v0, v1].take (SStep p ar s).1.nb) ∧ (SStep p ar s).1.end_ = (SStep p ar s).2.2.2.at_

def SStepP (p : ByteArray) (w : World) (b : Nat) (ar : ByteArray) (s : RS) : Prop :=
  Calls Try.prog 56 #[.pointer (some ⟨b, 0, none⟩), .string ar] w fun e w' => ∃ bs v0 v1 c0 c1,
    e = .returned (.agg #[.int .u8 (SStep p ar s).1.kind.toNat, .int .i64 (SStep p ar s).1.at_, .int .i64 (SStep p ar s).1.end_, .string (SStep p ar s).1.vars, bs, .string (SStep p ar s).1.scope]) ∧
    SRd w' b p (SStep p ar s).2.2.2 ∧ w.grownBy w' (some b) ∧
    SCells w' (fun j => w.heap.size ≤ j) (SStep p ar s).2.1 c0 ∧ Own6 w' (fun j => w.heap.size ≤ j) v0 (SStep p ar s).2.1.len c0 ∧
    SCells w' (fun j => w.heap.size ≤ j) (SStep p ar s).2.2.1 c1 ∧ Own6 w' (fun j => w.heap.size ≤ j) v1 (SStep p ar s).2.2.1.len c1 ∧
    (SStep p ar s).1.nb ≤ 2 ∧ Own w' (fun j => w.heap.size ≤ j) 54 bs ([v0, v1].take (SStep p ar s).1.nb)
def setSix (w : World) (r : Nat) (k : UInt8) (n en : Nat) (vs : ByteArray) (bs : Value) (sc : ByteArray) : World :=
  (((((w.setCell ⟨r, 0, none⟩ (.int .u8 k.toNat)).setCell ⟨r, 1, none⟩ (.int .i64 n)).setCell ⟨r, 2, none⟩ (.int .i64 en)).setCell ⟨r, 3, none⟩ (.string vs)).setCell ⟨r, 4, none⟩ bs).setCell ⟨r, 5, none⟩ (.string sc)
section
variable {w w' : World} {r : Nat} {k k' : UInt8} {n en n' en' : Nat} {vs sc vs' sc' : ByteArray} {bs bs' : Value}
theorem SNode.setSix (h : SNode w r k n en vs bs sc) : SNode (setSix w r k' n' en' vs' bs' sc') r k' n' en' vs' bs' sc' := by
  have h' : w.heap[r]? = _ := h
  simp [SNode, Ytopgkaekbbaglaa.setSix, World.setCell, Array.getElem?_modify, h']
theorem setSix_far {j : Nat} (h : j ≠ r) : (setSix w r k n en vs bs sc).heap[j]? = w.heap[j]? := by
  unfold setSix
  repeat rw [Below.heap_setCell _ _ _ j (by simpa using h)]
theorem setSix_grown (w : World) : w.grownBy (setSix w r k n en vs bs sc) (some r) :=
  World.grownBy.trans (World.grownBy.trans (World.grownBy.trans (World.grownBy.trans (World.grownBy.trans (grown_set _ _ _ _) (grown_set _ _ _ _)) (grown_set _ _ _ _)) (grown_set _ _ _ _)) (grown_set _ _ _ _)) (grown_set _ _ _ _)
end
theorem results56 : Try.f56.results = #[ResultVar.cell 4 46] := by kernel_rfl
theorem loadVar46 {w : World} {r : Nat} {k : UInt8} {n en : Nat} {vs sc : ByteArray} {bs : Value} (h : SNode w r k n en vs bs sc) :
    (loadVar 46 (⟨r, 0, none⟩ : Addr)).run Try.prog w = .ok (.agg #[.int .u8 k.toNat, .int .i64 n, .int .i64 en, .string vs, bs, .string sc]) w := by
  have c0 := h.c0
  have c1 := h.c1
  have c2 := h.c2
  have c3 := h.c3
  have c4 := h.c4
  have c5 := h.c5
  unfold loadVar
  go_simp
theorem ret56 {w : World} {r : Nat} {k : UInt8} {n en : Nat} {vs sc : ByteArray} {bs : Value} {tmps : Array Value} (ht : tmps[4]?.getD undef = .pointer (some ⟨r, 0, none⟩)) (h : SNode w r k n en vs bs sc) :
    (results Try.f56 tmps).run Try.prog w = .ok (.agg #[.int .u8 k.toNat, .int .i64 n, .int .i64 en, .string vs, bs, .string sc]) w := by
  unfold results
  rw [results56]
  have hl := loadVar46 h
  simp [ht, asAddr, hl]
theorem sstep_out {w wc : World} {b : Nat} {p ar : ByteArray} {s : RS} {g : Nat} {bs v0 v1 : Value} {c0 c1 : List Value} (hgg : w.heap.size < g) (hlt : b < w.heap.size)
    (hr3 : SRd wc b p (SStep p ar s).2.2.2) (hG3 : w.grownBy wc (some b))
    (sc0 : SCells wc (fun j => w.heap.size < j ∧ j ≠ g) (SStep p ar s).2.1 c0) (so0 : Own6 wc (fun j => w.heap.size < j ∧ j ≠ g) v0 (SStep p ar s).2.1.len c0)
    (sc1 : SCells wc (fun j => w.heap.size < j ∧ j ≠ g) (SStep p ar s).2.2.1 c1) (so1 : Own6 wc (fun j => w.heap.size < j ∧ j ≠ g) v1 (SStep p ar s).2.2.1.len c1)
    (hnb : (SStep p ar s).1.nb ≤ 2) (sbs : Own wc (fun j => w.heap.size < j ∧ j ≠ g) 54 bs ([v0, v1].take (SStep p ar s).1.nb)) (he : (SStep p ar s).1.end_ = (SStep p ar s).2.2.2.at_)
    {W : World} (hW : setSix (wc.setCell ⟨g, 2, none⟩ (.int .i64 (SStep p ar s).2.2.2.at_)) w.heap.size (SStep p ar s).1.kind (SStep p ar s).1.at_ (SStep p ar s).2.2.2.at_ (SStep p ar s).1.vars bs (SStep p ar s).1.scope = W) :
    ∃ bs' v0 v1 c0 c1, Ending.returned (.agg #[.int .u8 (SStep p ar s).1.kind.toNat, .int .i64 (SStep p ar s).1.at_, .int .i64 (SStep p ar s).2.2.2.at_, .string (SStep p ar s).1.vars, bs, .string (SStep p ar s).1.scope]) =
        .returned (.agg #[.int .u8 (SStep p ar s).1.kind.toNat, .int .i64 (SStep p ar s).1.at_, .int .i64 (SStep p ar s).1.end_, .string (SStep p ar s).1.vars, bs', .string (SStep p ar s).1.scope]) ∧
      SRd W b p (SStep p ar s).2.2.2 ∧ w.grownBy W (some b) ∧
      SCells W (fun j => w.heap.size ≤ j) (SStep p ar s).2.1 c0 ∧ Own6 W (fun j => w.heap.size ≤ j) v0 (SStep p ar s).2.1.len c0 ∧
      SCells W (fun j => w.heap.size ≤ j) (SStep p ar s).2.2.1 c1 ∧ Own6 W (fun j => w.heap.size ≤ j) v1 (SStep p ar s).2.2.1.len c1 ∧
      (SStep p ar s).1.nb ≤ 2 ∧ Own W (fun j => w.heap.size ≤ j) 54 bs' ([v0, v1].take (SStep p ar s).1.nb) := by
  have hfar : ∀ j, j ≠ w.heap.size → j ≠ g → W.heap[j]? = wc.heap[j]? := fun j h1 h2 => by
    rw [← hW, setSix_far h1]
    exact Below.heap_setCell wc _ _ j (by simpa using h2)
  have hk : ∀ j, (w.heap.size < j ∧ j ≠ g) → j < wc.heap.size → W.heap[j]? = wc.heap[j]? := fun j hj _ => hfar j (by omega) hj.2
  refine ⟨bs, v0, v1, c0, c1, by rw [he], (hfar b (by omega) (by omega)).trans hr3, ?_, (sc0.keep hk).mono (fun j hj => by omega), (so0.keep hk).mono (fun j hj => by omega),
    (sc1.keep hk).mono (fun j hj => by omega), (so1.keep hk).mono (fun j hj => by omega), hnb, (sbs.keep hk).mono (fun j hj => by omega)⟩
  have h1 := grown_set wc g 2 (.int .i64 (SStep p ar s).2.2.2.at_)
  have h2 := hG3.andThen h1 (fun j hj => by cases hj; exact .inl (by omega))
  have h3 := h2.andThen (setSix_grown (r := w.heap.size) (k := (SStep p ar s).1.kind) (n := (SStep p ar s).1.at_) (en := (SStep p ar s).2.2.2.at_) (vs := (SStep p ar s).1.vars) (bs := bs) (sc := (SStep p ar s).1.scope) _) (fun j hj => by cases hj; exact .inl (Nat.le_refl _))
  rw [← hW]
  exact h3
theorem smid_of {w w2 : World} {b : Nat} {p ar : ByteArray} {s s' : RS} {g : Nat} {i : Inf} {b0 b1 : T} {bs v0 v1 : Value} {c0 c1 : List Value} (hq : SStep p ar s = (i, b0, b1, s'))
    (h1 : SRd w2 b p s') (hG : w.grownBy w2 (some b)) (hN : SNode w2 g i.kind i.at_ 0 i.vars bs i.scope) (hZ : SNode w2 w.heap.size 0 0 0 ByteArray.empty (.slice none 0 0) ByteArray.empty)
    (sc0 : SCells w2 (fun j => w.heap.size < j ∧ j ≠ g) b0 c0) (so0 : Own6 w2 (fun j => w.heap.size < j ∧ j ≠ g) v0 b0.len c0)
    (sc1 : SCells w2 (fun j => w.heap.size < j ∧ j ≠ g) b1 c1) (so1 : Own6 w2 (fun j => w.heap.size < j ∧ j ≠ g) v1 b1.len c1)
    (hnb : i.nb ≤ 2) (sbs : Own w2 (fun j => w.heap.size < j ∧ j ≠ g) 54 bs ([v0, v1].take i.nb)) (he : i.end_ = s'.at_) : SMid w b p ar s g w2 := by
  unfold SMid
  rw [hq]
  exact ⟨bs, v0, v1, c0, c1, h1, hG, hN, hZ, sc0, so0, sc1, so1, hnb, sbs, he⟩
theorem Own6.nil (w : World) (ok : Nat → Prop) : Own6 w ok (.slice none 0 0) 0 [] := ⟨World.ownsRow_nil w 0 46 6, fun k hk => by simp [Value.ownBlock] at hk⟩
theorem own_empty {w : World} {gb : Nat} {ok : Nat → Prop} (h : w.heap[gb]? = some (.cells #[] 54 (0, 0))) (hg : ok gb) : Own w ok 54 (.slice (some ⟨gb, 0, none⟩) 0 0) [] :=
  ⟨⟨rfl, .inr ⟨gb, 0, #[], rfl, Nat.zero_le _, h, Nat.le_refl _, by simp [maxLen], rfl, rfl⟩⟩, fun k hk => by simp [Value.ownBlock] at hk; rw [← hk]; exact hg⟩
/-- a step without a body -/
theorem smid_leaf {w w2 : World} {b : Nat} {p ar : ByteArray} {s s' : RS} {g gb : Nat} {i : Inf} (hq : SStep p ar s = (i, .nil, .nil, s')) (hn : i.nb = 0)
    (h1 : SRd w2 b p s') (hG : w.grownBy w2 (some b)) (hN : SNode w2 g i.kind i.at_ 0 i.vars (.slice (some ⟨gb, 0, none⟩) 0 0) i.scope) (hZ : SNode w2 w.heap.size 0 0 0 ByteArray.empty (.slice none 0 0) ByteArray.empty)
    (hE : w2.heap[gb]? = some (.cells #[] 54 (0, 0))) (hg : w.heap.size < gb) (hgn : gb ≠ g) (he : i.end_ = s'.at_) : SMid w b p ar s g w2 :=
  smid_of (v0 := .slice none 0 0) (v1 := .slice none 0 0) (c0 := []) (c1 := []) hq h1 hG hN hZ rfl (Own6.nil _ _) rfl (Own6.nil _ _) (by omega) (by rw [hn]; exact own_empty hE ⟨hg, hgn⟩) he
theorem far_of {w w' : World} {j : Nat} {o : Obj} {r : Option Nat} (hg : w.grownBy w' r) (h : w.heap[j]? = some o) (hr : some j ≠ r) : w'.heap[j]? = some o := (hg.block j (Array.getElem?_eq_some_iff.1 h).1 hr).trans h
theorem far_set {w : World} {j g i : Nat} {o : Obj} (h : w.heap[j]? = some o) (v : Value) (hr : j ≠ g) : (w.setCell ⟨g, i, none⟩ v).heap[j]? = some o := (Below.heap_setCell w _ v j (by simpa using hr)).trans h
theorem info54 : (Try.prog.info? 54).map (fun i => (i.zero, i.size, i.bytes)) = some (some (.slice none 0 0), 1, 24) := by kernel_rfl
theorem byte_ne {c d : UInt8} {k : Int} (hk : (d.toNat : Int) = k) (h : ¬ c = d) : ((c.toNat : Int) == k) = false := by
  rw [beq_eq_false_iff_ne, ← hk]
  intro h'
  exact h ((byte_eq _ _).1 h')
theorem SRd.badOr {w : World} {b : Nat} {p : ByteArray} {n d : Nat} {x : Bool} (h : SRd w b p ⟨n, true, d⟩) : SRd w b p (badIf true ⟨n, x, d⟩) := by
  have : badIf true ⟨n, x, d⟩ = ⟨n, true, d⟩ := by simp [badIf]
  rw [this]
  exact h
theorem bytes_eqb (u v : ByteArray) : (u.toList == v.toList) = decide (u = v) := by
  by_cases h : u = v
  · simp [h]
  · have : u.toList ≠ v.toList := fun e => h (by
      rw [Lib.toList_data, Lib.toList_data] at e
      exact ByteArray.ext (Array.ext' e))
    simp [h, this]
theorem smid_two {w w5 : World} {b : Nat} {p ar : ByteArray} {s s2 : RS} {g gb : Nat} {u1 u2 : ByteArray} {k : UInt8} (hq : SStep p ar s = (⟨k, s.at_, s2.at_, u1 ++ u2, ar, 0⟩, .nil, .nil, badIf (decide (u2 = u1)) s2))
    (X : Bool) (hX : X = (s2.bad || decide (u2 = u1))) (hgg : w.heap.size < g) (hbg : b ≠ g) (hgn : gb ≠ g) (hgb : w.heap.size < gb) (hlt : b < w.heap.size)
    (hr : SRd w5 b p s2) (hG : w.grownBy w5 (some b)) (hN : SNode w5 g k s.at_ 0 u1 (.slice (some ⟨gb, 0, none⟩) 0 0) ar) (hZ : SNode w5 w.heap.size 0 0 0 ByteArray.empty (.slice none 0 0) ByteArray.empty)
    (hE : w5.heap[gb]? = some (.cells #[] 54 (0, 0))) : SMid w b p ar s g ((w5.setCell ⟨b, 2, none⟩ (.bool X)).setCell ⟨g, 3, none⟩ (.string (u1 ++ u2))) := by
  have hgb' : g ≠ b := fun h => hbg h.symm
  refine smid_leaf hq rfl ?_ ((World.grownBy.trans hG (grown_set _ _ _ _)).andThen (grown_set _ g 3 _) (fun j hj => by cases hj; exact .inl (by omega))) ((hN.far hgb' _).setVars _) ((hZ.far (by omega) _).far (by omega) _) (far_set (far_set hE _ (by omega)) _ hgn) hgb hgn rfl
  rw [hX]
  exact (hr.setBad _).far hbg _
theorem Own.grown {w w' : World} {ok : Nat → Prop} {e : TypeId} {v : Value} {xs : List Value} {r : Option Nat} (h : Own w ok e v xs) (hg : w.grownBy w' r) (hr : ∀ j, ok j → some j ≠ r) : Own w' ok e v xs :=
  h.keep (fun j hj hlt => hg.block j hlt (hr j hj))
/-- the cells of a step, the reader, and one row of bodies: all that a body more leaves -/
structure Pushed (w : World) (b : Nat) (p : ByteArray) (s : RS) (g : Nat) (k : UInt8) (n : Nat) (vs sc : ByteArray) (gb m cap : Nat) (xs : List Value) (t0 : T) (v0 : Value) (c0 : List Value) (t1 : T) (v1 : Value) (c1 : List Value) (W : World) : Prop where
  rd : SRd W b p s
  grown : w.grownBy W (some b)
  node : SNode W g k n 0 vs (.slice (some ⟨gb, 0, none⟩) m cap) sc
  zero : SNode W w.heap.size 0 0 0 ByteArray.empty (.slice none 0 0) ByteArray.empty
  far : w.heap.size < gb ∧ gb ≠ g
  row : Own W (fun j => j = gb) 54 (.slice (some ⟨gb, 0, none⟩) m cap) xs
  s0 : SCells W (fun j => w.heap.size < j ∧ j ≠ g ∧ j ≠ gb) t0 c0
  o0 : Own6 W (fun j => w.heap.size < j ∧ j ≠ g ∧ j ≠ gb) v0 t0.len c0
  s1 : SCells W (fun j => w.heap.size < j ∧ j ≠ g ∧ j ≠ gb) t1 c1
  o1 : Own6 W (fun j => w.heap.size < j ∧ j ≠ g ∧ j ≠ gb) v1 t1.len c1
theorem push {w w3 w4 w5 : World} {b : Nat} {p : ByteArray} {s3 s4 : RS} {g : Nat} {k : UInt8} {n : Nat} {vs sc : ByteArray} {gb m cap : Nat} {xs : List Value} {t0 : T} {v0 : Value} {c0 : List Value} {t' : T} {v' : Value} {c' : List Value}
    (H : Pushed w b p s3 g k n vs sc gb m cap xs t0 v0 c0 t' v' c' w3) (hgg : w.heap.size < g) (hlt : b < w.heap.size)
    {t1 : T} {v1 : Value} {c1 : List Value} (hr4 : SRd w4 b p s4) (hg4 : w3.drew.grownBy w4 (some b)) (sc4 : SCells w4 (fun j => w3.drew.heap.size ≤ j) t1 c1) (so4 : Own6 w4 (fun j => w3.drew.heap.size ≤ j) v1 t1.len c1)
    {g5 cap5 m5 : Nat} (hown5 : w5.ownsRow 0 54 1 (.slice (some ⟨g5, 0, none⟩) m5 cap5) m5 (xs ++ [v1])) (hgrow5 : (w4.alloc (.cells #[v1] 54)).grownBy w5 (some gb)) (hat5 : some gb = some g5 ∨ g5 = w4.heap.size + 1) (hm : (xs ++ [v1]).length = m5) :
    Pushed w b p s4 g k n vs sc g5 m5 cap5 (xs ++ [v1]) t0 v0 c0 t1 v1 c1 (w5.setCell ⟨g, 4, none⟩ (.slice (some ⟨g5, 0, none⟩) m5 cap5)) := by
  obtain ⟨hr3, hG3, hN3, hZ3, ⟨hgb, hgn⟩, hO3, hs0, ho0, _, _⟩ := H
  have hs3 : w3.drew.heap.size = w3.heap.size := rfl
  have hz3 := hG3.size
  have hz4 := hg4.size
  have hN3lt := hN3.lt
  have ho3lt : gb < w3.heap.size := (hO3.row.lt gb rfl).2
  have hga : (w4.alloc (.cells #[v1] 54)).heap.size = w4.heap.size + 1 := by simp
  have h5 := World.grownBy.trans (World.grownBy_alloc w4 (.cells #[v1] 54) (some gb)) hgrow5
  have hz5 := h5.size
  have hat : g5 = gb ∨ g5 = w4.heap.size + 1 := by
    rcases hat5 with h | h
    · injection h with h; exact .inl h.symm
    · exact .inr h
  have hg5 : w.heap.size < g5 ∧ g5 ≠ g := by rcases hat with h | h <;> constructor <;> omega
  have hk : ∀ j, j ≠ b → j ≠ gb → j ≠ g → j < w3.heap.size → (w5.setCell ⟨g, 4, none⟩ (.slice (some ⟨g5, 0, none⟩) m5 cap5)).heap[j]? = w3.heap[j]? := fun j h1 h2 h3 hl => by
    rw [Below.heap_setCell _ _ _ j (by simpa using h3), h5.block j (by omega) (by simpa using h2), hg4.block j (by omega) (by simpa using h1)]
    rfl
  have hk4 : ∀ j, j ≠ gb → j ≠ g → j < w4.heap.size → (w5.setCell ⟨g, 4, none⟩ (.slice (some ⟨g5, 0, none⟩) m5 cap5)).heap[j]? = w4.heap[j]? := fun j h2 h3 hl => by
    rw [Below.heap_setCell _ _ _ j (by simpa using h3), h5.block j hl (by simpa using h2)]
  have hold : ∀ j, (w.heap.size < j ∧ j ≠ g ∧ j ≠ gb) ∧ j < w3.heap.size → (w.heap.size < j ∧ j ≠ g ∧ j ≠ g5) := fun j hj => ⟨hj.1.1, hj.1.2.1, by rcases hat with h | h <;> omega⟩
  have hnew : ∀ j, w3.drew.heap.size ≤ j ∧ j < w4.heap.size → (w.heap.size < j ∧ j ≠ g ∧ j ≠ g5) := fun j hj => ⟨by omega, by omega, by rcases hat with h | h <;> omega⟩
  refine ⟨(hk4 b (by omega) (by omega) (by have := hr4.lt; omega)).trans hr4, ?_, ?_, ?_, hg5, ?_, ?_, ?_, ?_, ?_⟩
  · have a1 := World.grownBy.trans hG3 (World.grownBy.trans (grown_drewN w3 1 _) hg4)
    have a2 := a1.andThen h5 (fun j hj => by cases hj; exact .inl (by omega))
    exact a2.andThen (grown_set w5 g 4 _) (fun j hj => by cases hj; exact .inl (by omega))
  · have hN4 : SNode w4 g k n 0 vs (.slice (some ⟨gb, 0, none⟩) m cap) sc := SNode.grown (w := w3.drew) (hN3.drewN 1) hg4 (by simp; omega)
    exact (hN4.grown h5 (by simp; omega)).setBodies _
  · exact (hk _ (by omega) (by omega) (by omega) (by omega)).trans hZ3
  · refine ⟨?_, fun k hk => by simp [Value.ownBlock] at hk; exact hk.symm⟩
    have : Own w5 (fun j => j = g5) 54 (.slice (some ⟨g5, 0, none⟩) m5 cap5) (xs ++ [v1]) := ⟨by rw [hm]; exact hown5, fun k hk => by simp [Value.ownBlock] at hk; exact hk.symm⟩
    exact (this.keep (w' := w5.setCell ⟨g, 4, none⟩ (.slice (some ⟨g5, 0, none⟩) m5 cap5)) (fun j hj _ => Below.heap_setCell _ _ _ j (by simp; omega))).row
  · exact (hs0.bound.keep (fun j hj hl => hk j (by omega) hj.1.2.2 hj.1.2.1 hl)).mono hold
  · exact (ho0.bound.keep (fun j hj hl => hk j (by omega) hj.1.2.2 hj.1.2.1 hl)).mono hold
  · exact (sc4.bound.keep (fun j hj hl => hk4 j (by omega) (by omega) hl)).mono hnew
  · exact (so4.bound.keep (fun j hj hl => hk4 j (by omega) (by omega) hl)).mono hnew
theorem pushed_start {w w3 : World} {b : Nat} {p : ByteArray} {s : RS} {g : Nat} {k : UInt8} {n : Nat} {vs sc : ByteArray} {gb : Nat} (hr : SRd w3 b p s) (hG : w.grownBy w3 (some b)) (hN : SNode w3 g k n 0 vs (.slice (some ⟨gb, 0, none⟩) 0 0) sc)
    (hZ : SNode w3 w.heap.size 0 0 0 ByteArray.empty (.slice none 0 0) ByteArray.empty) (hE : w3.heap[gb]? = some (.cells #[] 54 (0, 0))) (hg : w.heap.size < gb) (hgn : gb ≠ g) :
    Pushed w b p s g k n vs sc gb 0 0 [] .nil (.slice none 0 0) [] .nil (.slice none 0 0) [] w3 :=
  ⟨hr, hG, hN, hZ, ⟨hg, hgn⟩, own_empty hE rfl, rfl, Own6.nil _ _, rfl, Own6.nil _ _⟩
theorem smid_of1 {w W : World} {b : Nat} {p ar : ByteArray} {s s' : RS} {g gb m cap : Nat} {i : Inf} {t0 t1 : T} {v0 v1 : Value} {c0 c1 : List Value} (hq : SStep p ar s = (i, t1, .nil, s')) (hnb : i.nb = 1) (he : i.end_ = s'.at_)
    (P : Pushed w b p s' g i.kind i.at_ i.vars i.scope gb m cap [v1] t0 v0 c0 t1 v1 c1 W) : SMid w b p ar s g W :=
  smid_of (v1 := .slice none 0 0) (c1 := []) hq P.rd P.grown P.node P.zero (P.s1.mono (fun j hj => ⟨hj.1, hj.2.1⟩)) (P.o1.mono (fun j hj => ⟨hj.1, hj.2.1⟩)) rfl (Own6.nil _ _) (by omega) (by rw [hnb]; exact P.row.mono (fun j hj => by rw [hj]; exact P.far)) he
theorem smid_of2 {w W : World} {b : Nat} {p ar : ByteArray} {s s' : RS} {g gb m cap : Nat} {i : Inf} {t0 t1 : T} {v0 v1 : Value} {c0 c1 : List Value} (hq : SStep p ar s = (i, t0, t1, s')) (hnb : i.nb = 2) (he : i.end_ = s'.at_)
    (P : Pushed w b p s' g i.kind i.at_ i.vars i.scope gb m cap [v0, v1] t0 v0 c0 t1 v1 c1 W) : SMid w b p ar s g W :=
  smid_of hq P.rd P.grown P.node P.zero (P.s0.mono (fun j hj => ⟨hj.1, hj.2.1⟩)) (P.o0.mono (fun j hj => ⟨hj.1, hj.2.1⟩)) (P.s1.mono (fun j hj => ⟨hj.1, hj.2.1⟩)) (P.o1.mono (fun j hj => ⟨hj.1, hj.2.1⟩)) (by omega) (by rw [hnb]; exact P.row.mono (fun j hj => by rw [hj]; exact P.far)) he
/-- the first body stands where the second will not touch it -/
theorem Pushed.turn {w W : World} {b : Nat} {p : ByteArray} {s : RS} {g : Nat} {k : UInt8} {n : Nat} {vs sc : ByteArray} {gb m cap : Nat} {xs : List Value} {t0 t1 : T} {v0 v1 : Value} {c0 c1 : List Value}
    (P : Pushed w b p s g k n vs sc gb m cap xs t0 v0 c0 t1 v1 c1 W) : Pushed w b p s g k n vs sc gb m cap xs t1 v1 c1 t1 v1 c1 W := ⟨P.rd, P.grown, P.node, P.zero, P.far, P.row, P.s1, P.o1, P.s1, P.o1⟩
/-- the reader goes on, and nothing else is touched -/
theorem Pushed.on {w W W' : World} {b : Nat} {p : ByteArray} {s s' : RS} {g : Nat} {k : UInt8} {n : Nat} {vs sc : ByteArray} {gb m cap : Nat} {xs : List Value} {t0 t1 : T} {v0 v1 : Value} {c0 c1 : List Value}
    (P : Pushed w b p s g k n vs sc gb m cap xs t0 v0 c0 t1 v1 c1 W) (hlt : b < w.heap.size) (hgg : w.heap.size < g) (hr : SRd W' b p s') (hg : W.grownBy W' (some b)) : Pushed w b p s' g k n vs sc gb m cap xs t0 v0 c0 t1 v1 c1 W' := by
  have hk : ∀ j, j ≠ b → j < W.heap.size → W'.heap[j]? = W.heap[j]? := fun j h hl => hg.block j hl (by simpa using h)
  exact ⟨hr, World.grownBy.trans P.grown hg, P.node.grown hg (by simp; omega), P.zero.grown hg (by simp; omega), P.far, P.row.grown hg (fun j hj => by have := P.far; simp; omega),
    P.s0.keep (fun j hj hl => hk j (by omega) hl), P.o0.keep (fun j hj hl => hk j (by omega) hl), P.s1.keep (fun j hj hl => hk j (by omega) hl), P.o1.keep (fun j hj hl => hk j (by omega) hl)⟩
/-- behind a body -/
def SPush (w : World) (b : Nat) (p : ByteArray) (s : RS) (g : Nat) (k : UInt8) (n : Nat) (vs sc : ByteArray) (t : T) (W : World) : Prop :=
  ∃ gb cap A cp c, Pushed w b p s g k n vs sc gb 1 cap [.slice A t.len cp] t (.slice A t.len cp) c t (.slice A t.len cp) c W
theorem scope_into {w W1 : World} {b : Nat} {p ar : ByteArray} {s : RS} {g gb : Nat} {k : UInt8} (hr : SRd W1 b p ⟨s.at_ + 1, s.bad, s.dep⟩) (hG : w.grownBy W1 (some b)) (hN : SNode W1 g k s.at_ 0 ByteArray.empty (.slice (some ⟨gb, 0, none⟩) 0 0) ar)
    (hZ : SNode W1 w.heap.size 0 0 0 ByteArray.empty (.slice none 0 0) ByteArray.empty) (hE : W1.heap[gb]? = some (.cells #[] 54 (0, 0))) (hlt : b < w.heap.size) (hgb : w.heap.size < gb) (hbg : b ≠ g)
    (X : Bool) (hX : X = (s.bad || decide ((4 : Int) < (s.dep : Int) + 1))) :
    SRd ((W1.setCell ⟨b, 3, none⟩ (.int .i64 ((s.dep : Int) + 1))).setCell ⟨b, 2, none⟩ (.bool X)) b p (into (adv s)) ∧ w.grownBy ((W1.setCell ⟨b, 3, none⟩ (.int .i64 ((s.dep : Int) + 1))).setCell ⟨b, 2, none⟩ (.bool X)) (some b) ∧
    SNode ((W1.setCell ⟨b, 3, none⟩ (.int .i64 ((s.dep : Int) + 1))).setCell ⟨b, 2, none⟩ (.bool X)) g k s.at_ 0 ByteArray.empty (.slice (some ⟨gb, 0, none⟩) 0 0) ar ∧
    SNode ((W1.setCell ⟨b, 3, none⟩ (.int .i64 ((s.dep : Int) + 1))).setCell ⟨b, 2, none⟩ (.bool X)) w.heap.size 0 0 0 ByteArray.empty (.slice none 0 0) ByteArray.empty ∧
    ((W1.setCell ⟨b, 3, none⟩ (.int .i64 ((s.dep : Int) + 1))).setCell ⟨b, 2, none⟩ (.bool X)).heap[gb]? = some (.cells #[] 54 (0, 0)) := by
  have hd : decide ((4 : Int) < (s.dep : Int) + 1) = decide (4 < s.dep + 1) := by
    by_cases h : 4 < s.dep + 1
    · rw [decide_eq_true h, decide_eq_true (by omega)]
    · rw [decide_eq_false h, decide_eq_false (by omega)]
  have hgb' : g ≠ b := fun h => hbg h.symm
  refine ⟨?_, World.grownBy.trans hG (World.grownBy.trans (grown_set _ _ _ _) (grown_set _ _ _ _)), (hN.far hgb' _).far hgb' _, (hZ.far (by omega) _).far (by omega) _, far_set (far_set hE _ (by omega)) _ (by omega)⟩
  rw [hX, hd]
  exact (hr.setDep (s.dep + 1)).setBad _
theorem scope_out {W : World} {b : Nat} {p : ByteArray} {s : RS} {d : Nat} (hr : SRd W b p s) (hd : s.dep = d + 1) : SRd (W.setCell ⟨b, 3, none⟩ (.int .i64 (d : Int))) b p (out s) := by
  have : out s = ⟨s.at_, s.bad, d⟩ := by unfold out; rw [hd]; rfl
  rw [this]
  exact hr.setDep d
end Go.Proofs.Ytopgkaekbbaglaa
