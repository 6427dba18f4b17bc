/- The depth of a step: the reference's function, walked over the trees that its reader makes. -/
import Derived.Test.YtopgkaekbbaglaaDb
import Derived.Test.YtopgkaekbbaglaaSm
namespace Go.Proofs.Ytopgkaekbbaglaa
open Go.RowKit Pl

theorem six_length (i : Inf) (bs : Value) : (six i bs).length = 6 := rfl
/-- one of the bodies of the reference's step, as it lies in memory -/
theorem sbody_at {w : World} {ok : Nat → Prop} {i : Inf} {b0 b1 : T} {A : Option Addr} {c : Nat} {v0 v1 : Value} {c0 c1 : List Value} (h0 : SCells w ok b0 c0) (o0 : Own6 w ok v0 b0.len c0) (h1 : SCells w ok b1 c1) (o1 : Own6 w ok v1 b1.len c1)
    (hn : i.nb ≤ 2) (ob : Own w ok 54 (.slice A i.nb c) ([v0, v1].take i.nb)) {j : Nat} (hj : j < i.nb) :
    ∃ g B d cs, A = some ⟨g, 0, none⟩ ∧ w.cell? ⟨g, j, none⟩ = some (.slice B (if j = 0 then b0 else b1).len d) ∧ SCells w ok (if j = 0 then b0 else b1) cs ∧ Own6 w ok (.slice B (if j = 0 then b0 else b1).len d) (if j = 0 then b0 else b1).len cs ∧ ok g := by
  have hlen : i.nb = ([v0, v1].take i.nb).length := by simp; omega
  obtain ⟨g, hA, hc⟩ := ob.at hlen hj
  have hg : ok g := ob.let_ g (by rw [hA]; rfl)
  obtain ⟨B0, d0, rfl⟩ := o0.form
  obtain ⟨B1, d1, rfl⟩ := o1.form
  match j, hj with
  | 0, hj => exact ⟨g, B0, d0, c0, hA, by rw [hc, List.getElem?_take_of_lt hj]; rfl, h0, o0, hg⟩
  | 1, hj => exact ⟨g, B1, d1, c1, hA, by rw [hc, List.getElem?_take_of_lt hj]; rfl, h1, o1, hg⟩
  | j + 2, hj => omega
/-- the bodies of the reference's step, as they lie in memory -/
def SBodies (w : World) (ok : Nat → Prop) (i : Inf) (b0 b1 : T) (A : Option Addr) (c : Nat) : Prop :=
  ∃ v0 v1 c0 c1, SCells w ok b0 c0 ∧ Own6 w ok v0 b0.len c0 ∧ SCells w ok b1 c1 ∧ Own6 w ok v1 b1.len c1 ∧ i.nb ≤ 2 ∧ Own w ok 54 (.slice A i.nb c) ([v0, v1].take i.nb)
theorem SBodies.at {w : World} {ok : Nat → Prop} {i : Inf} {b0 b1 : T} {A : Option Addr} {c : Nat} (h : SBodies w ok i b0 b1 A c) {j : Nat} (hj : j < i.nb) :
    ∃ g B d cs, A = some ⟨g, 0, none⟩ ∧ w.cell? ⟨g, j, none⟩ = some (.slice B (if j = 0 then b0 else b1).len d) ∧ SCells w ok (if j = 0 then b0 else b1) cs ∧ Own6 w ok (.slice B (if j = 0 then b0 else b1).len d) (if j = 0 then b0 else b1).len cs ∧ ok g := by
  obtain ⟨v0, v1, c0, c1, h0, o0, h1, o1, hn, ob⟩ := h
  exact sbody_at h0 o0 h1 o1 hn ob hj
theorem sstep_parts {w : World} {ok : Nat → Prop} {i : Inf} {b0 b1 : T} {bs : Value} (h : SCells w ok (.cons i b0 b1 .nil) (six i bs)) : ∃ A c, bs = .slice A i.nb c ∧ i.nb ≤ 2 ∧ SBodies w ok i b0 b1 A c := by
  obtain ⟨bs', v0, v1, rest, c0, c1, e, h0, o0, h1, o1, hn, ob, hr⟩ := h
  have hr' : rest = [] := hr
  subst hr'
  rw [List.append_nil] at e
  have hbs : bs = bs' := by
    simp [six] at e
    exact e
  subst hbs
  obtain ⟨A, c, hb⟩ := ob.form
  have hl : ([v0, v1].take i.nb).length = i.nb := by simp; omega
  rw [hl] at hb
  subst hb
  exact ⟨A, c, rfl, hn, v0, v1, c0, c1, h0, o0, h1, o1, hn, ob⟩
theorem scells_nil {w : World} {ok : Nat → Prop} {t : T} (h : SCells w ok t []) : t = .nil := by
  cases t with
  | nil => rfl
  | cons i b0 b1 r =>
    obtain ⟨bs, v0, v1, rest, c0, c1, e, _⟩ := h
    have := congrArg List.length e
    simp [six] at this
theorem scells_len {w : World} {ok : Nat → Prop} : ∀ {t : T} {cs : List Value}, SCells w ok t cs → cs.length = t.len * 6
  | .nil, cs, h => by
    have : cs = [] := h
    subst this
    rfl
  | .cons i b0 b1 r, _, h => by
    obtain ⟨bs, v0, v1, rest, c0, c1, e, h0, o0, h1, o1, hn, ob, hr⟩ := h
    subst e
    rw [List.length_append, six_length, scells_len hr]
    simp only [T.len]
    omega
theorem scells_cons {w : World} {ok : Nat → Prop} {t : T} {cs : List Value} (h : SCells w ok t cs) (hc : 0 < cs.length) :
    ∃ i b0 b1 r A c, t = .cons i b0 b1 r ∧ cs.take 6 = six i (.slice A i.nb c) ∧ SCells w ok (.cons i b0 b1 .nil) (six i (.slice A i.nb c)) ∧ SCells w ok r (cs.drop 6) := by
  cases t with
  | nil =>
    have : cs = [] := h
    subst this
    simp at hc
  | cons i b0 b1 r =>
    obtain ⟨bs, v0, v1, rest, c0, c1, e, h0, o0, h1, o1, hn, ob, hr⟩ := h
    subst e
    obtain ⟨A, c, hb⟩ := ob.form
    have hl : ([v0, v1].take i.nb).length = i.nb := by simp; omega
    rw [hl] at hb
    subst hb
    exact ⟨i, b0, b1, r, A, c, rfl, List.take_left' (six_length i _), ⟨_, v0, v1, [], c0, c1, (List.append_nil _).symm, h0, o0, h1, o1, hn, ob, rfl⟩, by rw [List.drop_left' (six_length i _)]; exact hr⟩
/-- six cells of a row of steps -/
structure Six (w : World) (g k : Nat) (i : Inf) (bs : Value) : Prop where
  c0 : w.cell? ⟨g, k * 6, none⟩ = some (.int .u8 i.kind.toNat)
  c1 : w.cell? ⟨g, k * 6 + 1, none⟩ = some (.int .i64 i.at_)
  c2 : w.cell? ⟨g, k * 6 + 2, none⟩ = some (.int .i64 i.end_)
  c3 : w.cell? ⟨g, k * 6 + 3, none⟩ = some (.string i.vars)
  c4 : w.cell? ⟨g, k * 6 + 4, none⟩ = some bs
  c5 : w.cell? ⟨g, k * 6 + 5, none⟩ = some (.string i.scope)
theorem six_of {w : World} {g n cap k : Nat} {cs : List Value} {i : Inf} {bs : Value} (h : w.ownsRow 0 46 6 (.slice (some ⟨g, 0, none⟩) n cap) n cs) (hk : k < n) (h6 : (cs.drop (k * 6)).take 6 = six i bs) : Six w g k i bs := by
  have hat : ∀ q, q < 6 → w.cell? ⟨g, k * 6 + q, none⟩ = (six i bs)[q]? := fun q hq => by
    rw [World.ownsRow.cellAt h (k * 6 + q) (by omega), ← h6, List.getElem?_take_of_lt hq, List.getElem?_drop]
  exact ⟨hat 0 (by omega), hat 1 (by omega), hat 2 (by omega), hat 3 (by omega), hat 4 (by omega), hat 5 (by omega)⟩
/-- an element of a row of the reference's steps, with what is behind it -/
theorem selem_at {w : World} {ok : Nat → Prop} {r : T} {cs : List Value} {B : Option Addr} {n d k : Nat} (hP : SCells w ok r (cs.drop (k * 6))) (hO : Own6 w ok (.slice B n d) n cs) (hk : k < n) :
    ∃ gb i b0 b1 r' A c, B = some ⟨gb, 0, none⟩ ∧ r = .cons i b0 b1 r' ∧ Six w gb k i (.slice A i.nb c) ∧ SCells w ok (.cons i b0 b1 .nil) (six i (.slice A i.nb c)) ∧ SCells w ok r' (cs.drop ((k + 1) * 6)) ∧ ok gb := by
  have hl := hO.row.1
  obtain ⟨i, b0, b1, r', A, c, hr, h6, h1, h2⟩ := scells_cons hP (by rw [List.length_drop]; omega)
  rcases hO.row.2 with ⟨hv, hn⟩ | ⟨g, cap, cur, hv, _⟩
  · omega
  · injection hv with e1 e2 e3
    subst e1
    refine ⟨g, i, b0, b1, r', A, c, rfl, hr, six_of hO.row hk h6, h1, ?_, hO.let_ g rfl⟩
    rw [List.drop_drop] at h2
    rw [show (k + 1) * 6 = k * 6 + 6 by omega]
    exact h2

/-- the contract of the reference's depth -/
def SDepC (i : Inf) (b0 b1 : T) : Prop := ∀ (w : World) (ok : Nat → Prop) (A : Option Addr) (c : Nat), (∀ j, ok j → j < w.heap.size) → SCells w ok (.cons i b0 b1 .nil) (six i (.slice A i.nb c)) →
  Calls Try.prog 42 #[.agg #[.int .u8 i.kind.toNat, .int .i64 i.at_, .int .i64 i.end_, .string i.vars, .slice A i.nb c, .string i.scope]] w fun e w' => e = .returned (.int .i64 (ndep i b0 b1)) ∧ Below w.heap.size w w'
theorem below_ok {w w' : World} {ok : Nat → Prop} (h : Below w.heap.size w w') (hok : ∀ j, ok j → j < w.heap.size) : ∀ j, ok j → j < w.heap.size → w'.heap[j]? = w.heap[j]? := fun j hj _ => h.block j (hok j hj)
theorem below_cell {w w' : World} {a : Addr} {u : Value} (h : Below w.heap.size w w') (hc : w.cell? a = some u) : w'.cell? a = some u :=
  (World.cell?_of_block (h.block a.block (World.block_lt_of_cell? w _ hc))).trans hc
theorem Six.below {w w' : World} {g k : Nat} {i : Inf} {bs : Value} (h : Six w g k i bs) (hb : Below w.heap.size w w') : Six w' g k i bs :=
  ⟨below_cell hb h.c0, below_cell hb h.c1, below_cell hb h.c2, below_cell hb h.c3, below_cell hb h.c4, below_cell hb h.c5⟩

theorem SNode.below {w w' : World} {g : Nat} {k : UInt8} {n en : Nat} {vs sc : ByteArray} {bs : Value} (h : SNode w g k n en vs bs sc) (hb : Below w.heap.size w w') : SNode w' g k n en vs bs sc := (hb.block g h.lt).trans h
/-- what the rounds keep: all that was there, and the step's own box -/
structure Kept1 (w : World) (i : Inf) (bs : Value) (wr : World) : Prop where
  below : Below w.heap.size w wr
  box : SNode wr w.heap.size i.kind i.at_ i.end_ i.vars bs i.scope
theorem Kept1.on {w wr w' : World} {i : Inf} {bs : Value} (h : Kept1 w i bs wr) (hb : Below wr.heap.size wr w') : Kept1 w i bs w' := ⟨h.below.trans (hb.mono h.below.size), h.box.below hb⟩
theorem Kept1.start (w : World) (i : Inf) (bs : Value) : Kept1 w i bs (w.alloc (.cells #[.int .u8 i.kind.toNat, .int .i64 i.at_, .int .i64 i.end_, .string i.vars, bs, .string i.scope] 46)) := ⟨below_of (World.grownBy_alloc w _ none), heap_alloc_new w _⟩
def SDepRel (w : World) (ok : Nat → Prop) (i : Inf) (bs : Value) (cs : List Value) (n M N : Nat) (a i' : Value) (wr : World) : Prop :=
  ∃ (k m : Nat) (r : T), k ≤ n ∧ a = .int .i64 m ∧ i' = .int .i64 k ∧ SCells w ok r (cs.drop (k * 6)) ∧ max m r.dep = M ∧ r.count ≤ N ∧ Kept1 w i bs wr
theorem scells_end {w : World} {ok : Nat → Prop} {r : T} {cs : List Value} {n k : Nat} (hl : cs.length = n * 6) (hk : k = n) (h : SCells w ok r (cs.drop (k * 6))) : r = .nil := by
  rw [hk, ← hl, List.drop_length] at h
  exact scells_nil h
set_option maxHeartbeats 1600000 in
set_option maxRecDepth 1000000 in
theorem sdepth_step (i : Inf) (b0 b1 : T) (hm : (T.cons i b0 b1 .nil).count ≤ 1000000) (ih : ∀ j c0 c1, (T.cons j c0 c1 .nil).count < (T.cons i b0 b1 .nil).count → SDepC j c0 c1) : SDepC i b0 b1 := by
  intro w ok A c hok hP
  obtain ⟨A', c', e, hn, hb⟩ := sstep_parts hP
  injection e with e1 e2 e3
  subst e1 e3
  have HB := Lib.hid hb
  have IH := Lib.hid ih
  have HD := Lib.hid (odep_all i b0 b1 hn)
  have HOK := Lib.hid hok
  simp only [T.count] at hm
  clear hP hb ih hok
  go_enter Try.func42, Try.ntmps42
  go_wp2_with fail
  go_loopw [3, 11] (fun a i' wr => ∃ j : Nat, j ≤ i.nb ∧ a = .int .i64 (odep b0 b1 j) ∧ i' = .int .i64 j ∧ Kept1 w i (.slice A i.nb c) wr) (fun _ i' _ => i.nb - (intOf i').toNat)
  case atStart => exact ⟨0, Nat.zero_le _, rfl, rfl, Kept1.start w i _⟩
  case round =>
    obtain ⟨j, hj, rfl, rfl, hK⟩ := hrel
    obtain ⟨wo, rfl⟩ : ∃ wo : World, wo = wr := ⟨_, rfl⟩
    have HK := Lib.hid hK
    have b0c := hK.box.c0
    clear hK
    by_cases hlt : j < i.nb
    · obtain ⟨gb, B, d, cs, rfl, hc0, hP, hO, _⟩ := HB.out.at hlt
      have hc := below_cell HK.out.below hc0
      have hdc := odep_count b0 b1 j
      have HP := Lib.hid hP
      have HO := Lib.hid hO
      have hcl := len_count (if j = 0 then b0 else b1)
      have hlen := hO.row.1
      have HLen := Lib.hid hlen
      clear hP hO hc0 hlen b0c
      have hbc := body_count b0 b1 j
      have HS := Lib.hid (odep_step b0 b1 (j := j) (by omega))
      generalize (if j = 0 then b0 else b1) = bj at *
      go_wp2_with fail
      go_loopw [3, 17] (fun a i' wr => SDepRel w ok i (.slice (some ⟨gb, 0, none⟩) i.nb c) cs bj.len (odep b0 b1 (j + 1)) (b0.count + b1.count) a i' wr) (fun _ i' _ => bj.len - (intOf i').toNat)
      case atStart => exact ⟨0, odep b0 b1 j, bj, Nat.zero_le _, rfl, rfl, HP.out, HS.out.symm, hbc, HK.out⟩
      case round =>
        obtain ⟨k, m, r, hk, rfl, rfl, hr, hM, hcn, hK⟩ := hrel
        have HM := Lib.hid hM
        have HK2 := Lib.hid hK
        clear hM hK hc HK HP
        by_cases hlt2 : k < bj.len
        · obtain ⟨g2, i2, d0, d1, r2, A2, c2, rfl, rfl, hsix, hp1, hp2, _⟩ := selem_at hr HO.out hlt2
          have hs := hsix.below HK2.out.below
          obtain ⟨s0, s1, s2, s3, s4, s5⟩ := hs
          have HR := Lib.hid hp2
          have HX := Lib.hid hp1
          have hdn := ndep_count i2 d0 d1
          simp only [T.count] at hcn hdn
          clear hr hp1 hp2 hsix
          have hK3 := HK2.out.on (below_of (World.grownBy_alloc wr (.cells #[.int .u8 i2.kind.toNat, .int .i64 i2.at_, .int .i64 i2.end_, .string i2.vars, .slice A2 i2.nb c2, .string i2.scope] 46) none))
          have hih := IH.out i2 d0 d1 (by simp only [T.count]; omega) _ ok A2 c2 (fun q hq => Nat.lt_of_lt_of_le (HOK.out q hq) hK3.below.size) (HX.out.keep (below_ok hK3.below HOK.out))
          have HIH := Lib.hid hih
          have HK3 := Lib.hid hK3
          clear hih hK3 HX
          go_wp2_with fail
          refine HIH.out.mono ?_
          rintro e w4 ⟨rfl, hb4⟩
          have HK4 := Lib.hid (HK3.out.on hb4)
          clear hb4 HK3 s0 s1 s2 s3 s4 s5
          go_wp2_with fail
          go_roundw
          case rel =>
            refine ⟨k + 1, max m (ndep i2 d0 d1), r2, hlt2, ?_, by go_num, HR.out, ?_, by omega, HK4.out⟩
            · rw [max_val]
            · rw [← HM.out, dep_cons]; omega
          case measure => simp [intOf]; omega
        · have hr0 : r = .nil := scells_end HLen.out (by omega) hr
          subst hr0
          have hmm : m = odep b0 b1 (j + 1) := by rw [← HM.out]; simp [T.dep]
          have HMM := Lib.hid hmm
          clear hr hmm
          go_wp2_with fail
          go_roundw
          case rel => exact ⟨j + 1, hlt, by rw [HMM.out], by go_num, HK2.out⟩
          case measure => simp [intOf]; omega
    · have hjn : j = i.nb := by omega
      subst hjn
      have hod := odep_count b0 b1 i.nb
      by_cases hk : i.kind = 123
      · have g1 : ((i.kind.toNat : Int) == 123) = true := by rw [hk]; rfl
        have HKd := Lib.hid hk
        clear hk
        go_wp2_with fail
        go_ret
        exact ⟨by rw [HD.out, if_pos HKd.out]; rfl, HK.out.below⟩
      · have g1 : ((i.kind.toNat : Int) == 123) = false := by
          rw [beq_eq_false_iff_ne]
          intro h
          exact hk ((byte_eq i.kind 123).1 h)
        have HKd := Lib.hid hk
        clear hk
        go_wp2_with fail
        go_ret
        exact ⟨by rw [HD.out, if_neg HKd.out]; rfl, HK.out.below⟩
theorem sdepth_any : ∀ (n : Nat) (i : Inf) (b0 b1 : T), n ≤ 1000000 → (T.cons i b0 b1 .nil).count ≤ n → SDepC i b0 b1 := by
  intro n
  induction n with
  | zero => intro i b0 b1 _ h; simp [T.count] at h
  | succ n ih => exact fun i b0 b1 hn h => sdepth_step i b0 b1 (by omega) (fun j c0 c1 hj => ih j c0 c1 (by omega) (by omega))
end Go.Proofs.Ytopgkaekbbaglaa
