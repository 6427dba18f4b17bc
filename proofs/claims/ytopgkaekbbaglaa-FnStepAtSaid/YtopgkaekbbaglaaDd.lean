/- All steps of a program, in the order in which they begin: the program's walk over a tree. -/
import Derived.Test.YtopgkaekbbaglaaDc
namespace Go.Proofs.Ytopgkaekbbaglaa
open Go.RowKit Pl

/-- the steps of the first bodies, behind the step itself -/
def oflat (i : Inf) (b0 b1 : T) : Nat → List Inf
  | 0 => [i]
  | 1 => i :: b0.flat
  | _ => i :: (b0.flat ++ b1.flat)
theorem oflat_step (i : Inf) (b0 b1 : T) {j : Nat} (hj : j < 2) : oflat i b0 b1 (j + 1) = oflat i b0 b1 j ++ (if j = 0 then b0 else b1).flat := by
  match j, hj with
  | 0, _ => simp [oflat]
  | 1, _ => simp [oflat]
theorem oflat_all (i : Inf) (b0 b1 : T) (h : i.nb ≤ 2) : (T.cons i b0 b1 .nil).flat = oflat i b0 b1 i.nb := by
  match hn : i.nb, h with
  | 0, _ => simp [oflat, T.flat, hn]
  | 1, _ => simp [oflat, T.flat, hn]
  | 2, _ => simp [oflat, T.flat, hn]
theorem oflat_le (i : Inf) (b0 b1 : T) (h : i.nb ≤ 2) {j : Nat} (hj : j ≤ i.nb) : (oflat i b0 b1 j).length ≤ (T.cons i b0 b1 .nil).flat.length := by
  rw [oflat_all i b0 b1 h]
  match hn : i.nb, j, h, hj with
  | 0, 0, _, _ => exact Nat.le_refl _
  | 1, 0, _, _ => simp [oflat]
  | 1, 1, _, _ => exact Nat.le_refl _
  | 2, 0, _, _ => simp [oflat]
  | 2, 1, _, _ => simp [oflat]
  | 2, 2, _, _ => exact Nat.le_refl _
theorem flat_cons (i : Inf) (b0 b1 r : T) : (T.cons i b0 b1 r).flat = (T.cons i b0 b1 .nil).flat ++ r.flat := by simp [T.flat]

/-- what a walk leaves: the steps' pointers are appended -/
def WalkPost (w : World) (ok : Nat → Prop) (C : Nat) (v : Value) (xs : List Value) (L : List Inf) (e : Ending) (w' : World) : Prop :=
  e = .returned (.tuple #[]) ∧ ∃ v1 ps, w'.heap[C]? = some (.cells #[v1] 56 (0, 0)) ∧ some C ≠ v1.ownBlock ∧ Own w' (fun k => v.ownBlock = some k ∨ w.heap.size ≤ k) 49 v1 (xs ++ ps) ∧ Nodes w' ok L ps ∧ Kp w w' (fun k => k = C ∨ v.ownBlock = some k)
def WalkC (i : Inf) (b0 b1 : T) : Prop := ∀ (w : World) (ok okv : Nat → Prop) (g C : Nat) (v : Value) (xs : List Value), PCells w ok (.cons i b0 b1 .nil) [.pointer (some ⟨g, 0, none⟩)] →
  (∀ j, ok j → j < w.heap.size ∧ j ≠ C ∧ some j ≠ v.ownBlock) → w.heap[C]? = some (.cells #[v] 56 (0, 0)) → some C ≠ v.ownBlock → Own w okv 49 v xs → xs.length + (T.cons i b0 b1 .nil).flat.length ≤ 1000000 →
  Calls Try.prog 59 #[.pointer (some ⟨g, 0, none⟩), .func (.func 60) #[] #[.pointer (some ⟨C, 0, none⟩)]] w (WalkPost w ok C v xs (T.cons i b0 b1 .nil).flat)
/-- so many steps are appended -/
def Walked (w : World) (ok : Nat → Prop) (C : Nat) (v : Value) (xs : List Value) (done : List Inf) (wr : World) : Prop :=
  ∃ v1 ps, wr.heap[C]? = some (.cells #[v1] 56 (0, 0)) ∧ some C ≠ v1.ownBlock ∧ Own wr (fun k => v.ownBlock = some k ∨ w.heap.size ≤ k) 49 v1 (xs ++ ps) ∧ Nodes wr ok done ps ∧ Kp w wr (fun k => k = C ∨ v.ownBlock = some k)
/-- a further walk appends further steps -/
theorem walked_on {w wr w' : World} {ok : Nat → Prop} {C : Nat} {v v1 : Value} {xs ps : List Value} {done L : List Inf} {e : Ending} (hok : ∀ j, ok j → j < w.heap.size ∧ j ≠ C ∧ some j ≠ v.ownBlock)
    (hO : Own wr (fun k => v.ownBlock = some k ∨ w.heap.size ≤ k) 49 v1 (xs ++ ps)) (hN : Nodes wr ok done ps) (hK : Kp w wr (fun k => k = C ∨ v.ownBlock = some k))
    (h : WalkPost wr ok C v1 (xs ++ ps) L e w') : Walked w ok C v xs (done ++ L) w' := by
  obtain ⟨_, v2, qs, h1, h2, h3, h4, h5⟩ := h
  have hst : ∀ j, ok j → ¬ (j = C ∨ v1.ownBlock = some j) := fun j hj hs => by
    obtain ⟨a, b, c⟩ := hok j hj
    rcases hs with hs | hs
    · exact b hs
    · rcases hO.let_ j hs with q | q
      · exact c q.symm
      · omega
  refine ⟨v2, ps ++ qs, h1, h2, ?_, Nodes.append h4 (hN.keep (fun j hj hl => h5.block j hl (hst j hj))), hK.trans h5 (fun j hj hs => ?_)⟩
  · rw [← List.append_assoc]
    exact h3.mono (fun k hk => by
      rcases hk with hk | hk
      · exact hO.let_ k hk
      · right
        have := hK.size
        omega)
  · rcases hs with hs | hs
    · exact .inl hs
    · rcases hO.let_ j hs with q | q
      · exact .inr q
      · omega
def WalkRel (w : World) (ok : Nat → Prop) (C : Nat) (v : Value) (xs cs : List Value) (L : List Inf) (N : Nat) (i' : Value) (wr : World) : Prop :=
  ∃ (k : Nat) (r : T) (done : List Inf), k ≤ cs.length ∧ i' = .int .i64 k ∧ PCells w ok r (cs.drop k) ∧ done ++ r.flat = L ∧ r.count ≤ N ∧ Walked w ok C v xs done wr

theorem Own.le {w : World} {ok : Nat → Prop} {e : TypeId} {v : Value} {xs : List Value} (h : Own w ok e v xs) : xs.length ≤ 9223372036854775807 := by
  rcases h.row.2 with ⟨_, hn⟩ | ⟨g, cap, cur, _, _, _, h1, h2, _⟩
  · omega
  · simp only [maxLen] at h2
    omega
/-- the bodies of a step, as they lie in memory -/
def Bodies (w : World) (ok : Nat → Prop) (i : Inf) (b0 b1 : T) (A : Option Addr) (c : Nat) : Prop :=
  ∃ v0 v1 c0 c1, PCells w ok b0 c0 ∧ Own w ok 49 v0 c0 ∧ PCells w ok b1 c1 ∧ Own w ok 49 v1 c1 ∧ i.nb ≤ 2 ∧ Own w ok 56 (.slice A i.nb c) ([v0, v1].take i.nb)
theorem Bodies.keep {w w' : World} {ok : Nat → Prop} {i : Inf} {b0 b1 : T} {A : Option Addr} {c : Nat} (h : Bodies w ok i b0 b1 A c) (hk : ∀ j, ok j → j < w.heap.size → w'.heap[j]? = w.heap[j]?) : Bodies w' ok i b0 b1 A c := by
  obtain ⟨v0, v1, c0, c1, h0, o0, h1, o1, hn, ob⟩ := h
  exact ⟨v0, v1, c0, c1, h0.keep hk, o0.keep hk, h1.keep hk, o1.keep hk, hn, ob.keep hk⟩
theorem Bodies.at {w : World} {ok : Nat → Prop} {i : Inf} {b0 b1 : T} {A : Option Addr} {c : Nat} (h : Bodies w ok i b0 b1 A c) {j : Nat} (hj : j < i.nb) :
    ∃ g B d cs, A = some ⟨g, 0, none⟩ ∧ w.cell? ⟨g, j, none⟩ = some (.slice B cs.length d) ∧ PCells w ok (if j = 0 then b0 else b1) cs ∧ Own w ok 49 (.slice B cs.length d) cs ∧ ok g := by
  obtain ⟨v0, v1, c0, c1, h0, o0, h1, o1, hn, ob⟩ := h
  exact body_at h0 o0 h1 o1 hn ob hj
theorem step_parts {w : World} {ok : Nat → Prop} {i : Inf} {b0 b1 : T} {g : Nat} (h : PCells w ok (.cons i b0 b1 .nil) [.pointer (some ⟨g, 0, none⟩)]) :
    ∃ A c, ok g ∧ w.heap[g]? = some (.cells #[.int .u8 i.kind.toNat, .int .i64 i.at_, .int .i64 i.end_, .string i.vars, .string i.scope, .slice A i.nb c] 60 (0, 0)) ∧ i.nb ≤ 2 ∧ Bodies w ok i b0 b1 A c := by
  obtain ⟨g', bs, v0, v1, rest, c0, c1, e, hg, hh, h0, o0, h1, o1, hn, ob, hr⟩ := h
  injection e with e1 e2
  injection e1 with e1
  injection e1 with e1
  injection e1 with e1
  subst e1
  obtain ⟨A, c, rfl⟩ : ∃ A c, bs = .slice A i.nb c := by
    obtain ⟨A, c, hb⟩ := ob.form
    exact ⟨A, c, by rw [hb]; congr 1; simp; omega⟩
  exact ⟨A, c, hg, hh, hn, v0, v1, c0, c1, h0, o0, h1, o1, hn, ob⟩
theorem walked_still {w wr : World} {ok : Nat → Prop} {C : Nat} {v : Value} {xs : List Value} {done : List Inf} (hok : ∀ j, ok j → j < w.heap.size ∧ j ≠ C ∧ some j ≠ v.ownBlock) (h : Walked w ok C v xs done wr) : ∀ j, ok j → j < w.heap.size → wr.heap[j]? = w.heap[j]? := by
  obtain ⟨v1, ps, _, _, _, _, hK⟩ := h
  intro j hj hl
  obtain ⟨_, b, c⟩ := hok j hj
  exact hK.block j hl (fun hs => by rcases hs with hs | hs; exact b hs; exact c hs.symm)
theorem still_cell {w wr : World} {ok : Nat → Prop} {b o : Nat} {u : Value} (h : ∀ j, ok j → j < w.heap.size → wr.heap[j]? = w.heap[j]?) (hb : ok b) (hc : w.cell? ⟨b, o, none⟩ = some u) : wr.cell? ⟨b, o, none⟩ = some u :=
  (World.cell?_of_block (a := ⟨b, o, none⟩) (h b hb (World.block_lt_of_cell? w _ hc))).trans hc
set_option maxHeartbeats 1600000 in
set_option maxRecDepth 1000000 in
theorem walk_step (i : Inf) (b0 b1 : T) (ih : ∀ j c0 c1, (T.cons j c0 c1 .nil).count < (T.cons i b0 b1 .nil).count → WalkC j c0 c1) : WalkC i b0 b1 := by
  intro w ok okv g C v xs hP hok hC hCv hO hl
  obtain ⟨A, c, hg, hh, hn, hb⟩ := step_parts hP
  have HB := Lib.hid hb
  have IH := Lib.hid ih
  have HF := Lib.hid (oflat_all i b0 b1 hn)
  have HH := Lib.hid hh
  have HOK := Lib.hid hok
  have HG := Lib.hid hg
  have HL := Lib.hid hl
  have HS := Lib.hid (see_any w C okv v xs (some ⟨g, 0, none⟩) hC hCv hO (by omega))
  clear hP hh hg hb ih hok hC hCv hO
  go_enter Try.func59, Try.ntmps59
  go_wp2_with fail
  refine HS.out.mono ?_
  rintro e w1 ⟨rfl, v2, hC1, hC2, hO1, hK1⟩
  have hh1 : w1.heap[g]? = some (.cells #[.int .u8 i.kind.toNat, .int .i64 i.at_, .int .i64 i.end_, .string i.vars, .string i.scope, .slice A i.nb c] 60 (0, 0)) := by
    obtain ⟨a, b, d⟩ := HOK.out g HG.out
    rw [hK1.block g a (fun hs => by rcases hs with hs | hs; exact b hs; exact d hs.symm)]
    exact HH.out
  have hk5 : w1.cell? ⟨g, 5, none⟩ = some (.slice A i.nb c) := by simp [World.cell?, hh1]
  have HW := Lib.hid (show Walked w ok C v xs (oflat i b0 b1 0) w1 from ⟨v2, [.pointer (some ⟨g, 0, none⟩)], hC1, hC2, hO1, ⟨g, A, i.nb, c, [], rfl, HG.out, hh1, rfl⟩, hK1⟩)
  clear hC1 hC2 hO1 hK1 hh1
  go_wp2_with fail
  go_loopw [16] (fun i' wr => ∃ j : Nat, j ≤ i.nb ∧ i' = .int .i64 j ∧ Walked w ok C v xs (oflat i b0 b1 j) wr) (fun i' _ => i.nb - (intOf i').toNat)
  case atStart => exact ⟨0, Nat.zero_le _, rfl, HW.out⟩
  case round =>
    clear hk5 HW
    obtain ⟨j, hj, rfl, hw⟩ := hrel
    obtain ⟨wo, rfl⟩ : ∃ wo : World, wo = wr := ⟨_, rfl⟩
    have hst := walked_still HOK.out hw
    by_cases hlt : j < i.nb
    · obtain ⟨gb, B, d, cs, rfl, hc0, hP, hO, hgb⟩ := HB.out.at hlt
      have hc := still_cell hst hgb hc0
      have hcl := hO.le
      have HP := Lib.hid hP
      have HO := Lib.hid hO
      have HWJ := Lib.hid hw
      clear hP hO hw hc0 hst
      go_wp2_with fail
      go_loopw [22] (fun i' wr => WalkRel w ok C v xs cs (oflat i b0 b1 (j + 1)) (b0.count + b1.count) i' wr) (fun i' _ => cs.length - (intOf i').toNat)
      case atStart => exact ⟨0, if j = 0 then b0 else b1, oflat i b0 b1 j, Nat.zero_le _, rfl, HP.out, (oflat_step i b0 b1 (by omega)).symm, body_count b0 b1 j, HWJ.out⟩
      case round =>
        obtain ⟨k, r, done, hk, rfl, hr, hL, hcn, hw⟩ := hrel
        have HL2 := Lib.hid hL
        clear hL
        by_cases hlt2 : k < cs.length
        · obtain ⟨g2, i2, d0, d1, r2, gn, rfl, rfl, hc20, hp1, hp2, hg2⟩ := elem_at hr HO.out hlt2
          have hst2 := walked_still HOK.out hw
          have hc2 := still_cell hst2 hg2 hc20
          have hp1' := hp1.keep hst2
          obtain ⟨v3, ps, hC3, hC4, hO3, hN3, hK3⟩ := hw
          have hlen := hN3.length
          have hdl : (done ++ (T.cons i2 d0 d1 r2).flat).length ≤ (T.cons i b0 b1 .nil).flat.length := by rw [HL2.out]; exact oflat_le i b0 b1 hn hlt
          rw [flat_cons, List.length_append, List.length_append] at hdl
          have hcn2 : (T.cons i2 d0 d1 .nil).count < (T.cons i b0 b1 .nil).count := by simp only [T.count] at hcn ⊢; omega
          have hih := IH.out i2 d0 d1 hcn2 wr ok (fun k => v.ownBlock = some k ∨ w.heap.size ≤ k) gn C v3 (xs ++ ps) hp1' (fun q hq => by
            obtain ⟨a, b, e⟩ := HOK.out q hq
            have hs := hK3.size
            refine ⟨by omega, b, fun he => ?_⟩
            rcases hO3.let_ q he.symm with z | z
            · exact e z.symm
            · omega) hC3 hC4 hO3 (by have := HL.out; rw [List.length_append]; omega)
          have HIH := Lib.hid hih
          have HO3 := Lib.hid hO3
          have HN3 := Lib.hid hN3
          have HK3 := Lib.hid hK3
          have HP2 := Lib.hid hp2
          clear hih hO3 hN3 hK3 hC3 hC4 hp1 hp1' hp2 hst2 hr hc20 hlen hdl hcn2
          go_wp2_with fail
          refine HIH.out.mono ?_
          intro e w' hpost
          have HW' := Lib.hid (walked_on HOK.out HO3.out HN3.out HK3.out hpost)
          obtain ⟨rfl, _⟩ := hpost
          go_wp2_with fail
          go_roundw
          case rel => exact ⟨k + 1, r2, _, hlt2, by go_num, HP2.out, by rw [List.append_assoc, ← flat_cons]; exact HL2.out, by simp only [T.count] at hcn; omega, HW'.out⟩
          case measure => simp [intOf]; omega
        · have hkn : k = cs.length := by omega
          have hr0 : r = .nil := by rw [hkn, List.drop_length] at hr; exact pcells_nil hr
          subst hr0
          have HW' := Lib.hid (show Walked w ok C v xs (oflat i b0 b1 (j + 1)) wr by rw [← HL2.out]; simpa [T.flat] using hw)
          clear hr hw
          go_wp2_with fail
          go_roundw
          case rel => exact ⟨j + 1, hlt, by go_num, HW'.out⟩
          case measure => simp [intOf]; omega
    · have hjn : j = i.nb := by omega
      subst hjn
      have HWJ := Lib.hid hw
      clear hw hst
      go_wp2_with fail
      go_end0
      rw [HF.out]
      obtain ⟨v1, ps, a, b, c, d, e⟩ := HWJ.out
      exact ⟨rfl, v1, ps, a, b, c, d, e⟩
theorem walk_any : ∀ (n : Nat) (i : Inf) (b0 b1 : T), (T.cons i b0 b1 .nil).count ≤ n → WalkC i b0 b1 := by
  intro n
  induction n with
  | zero => intro i b0 b1 h; simp [T.count] at h
  | succ n ih => exact fun i b0 b1 h => walk_step i b0 b1 (fun j c0 c1 hj => ih j c0 c1 (by omega))
end Go.Proofs.Ytopgkaekbbaglaa
