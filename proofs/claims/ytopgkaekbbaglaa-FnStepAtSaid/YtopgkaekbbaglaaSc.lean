/- How the trees that the reference's reader makes lie in memory; the contract of its reader of steps in a row. -/
import Derived.Test.YtopgkaekbbaglaaSb
import Derived.Test.YtopgkaekbbaglaaPlainc
import Derived.Deep.AppendLies
namespace Go.Proofs.Ytopgkaekbbaglaa
open Go.RowKit Pl

/-- a row of the call's own of so many steps, six cells each -/
structure Own6 (w : World) (ok : Nat → Prop) (v : Value) (n : Nat) (xs : List Value) : Prop where
  row : w.ownsRow 0 46 6 v n xs
  let_ : ∀ k, v.ownBlock = some k → ok k
theorem Own6.keep {w w' : World} {ok : Nat → Prop} {v : Value} {n : Nat} {xs : List Value} (h : Own6 w ok v n xs) (hk : ∀ j, ok j → j < w.heap.size → w'.heap[j]? = w.heap[j]?) : Own6 w' ok v n xs := by
  refine ⟨⟨h.row.1, ?_⟩, h.let_⟩
  rcases h.row.2 with hn | ⟨g, cap, cur, hv, hb, hg, r⟩
  · exact .inl hn
  · refine .inr ⟨g, cap, cur, hv, hb, ?_, r⟩
    rw [hk g (h.let_ g (by rw [hv]; rfl)) (Array.getElem?_eq_some_iff.1 hg).1]
    exact hg
theorem Own6.mono {w : World} {ok ok' : Nat → Prop} {v : Value} {n : Nat} {xs : List Value} (h : Own6 w ok v n xs) (hk : ∀ j, ok j → ok' j) : Own6 w ok' v n xs := ⟨h.row, fun k hv => hk k (h.let_ k hv)⟩
theorem Own6.bound {w : World} {ok : Nat → Prop} {v : Value} {n : Nat} {xs : List Value} (h : Own6 w ok v n xs) : Own6 w (fun j => ok j ∧ j < w.heap.size) v n xs :=
  ⟨h.row, fun k hv => ⟨h.let_ k hv, (h.row.lt k hv).2⟩⟩
theorem Own6.form {w : World} {ok : Nat → Prop} {v : Value} {n : Nat} {xs : List Value} (h : Own6 w ok v n xs) : ∃ A c, v = .slice A n c := by
  rcases h.row.2 with ⟨hv, hn⟩ | ⟨g, cap, cur, hv, _⟩
  · exact ⟨none, 0, by rw [hv, hn]⟩
  · exact ⟨_, cap, hv⟩
theorem Own6.drewN {w : World} {ok : Nat → Prop} {v : Value} {n : Nat} {xs : List Value} (h : Own6 w ok v n xs) (k : Nat) : Own6 (w.drewN k) ok v n xs := Own6.keep (w := w) (w' := w.drewN k) h (fun _ _ _ => rfl)

/-- the six cells of a step -/
def six (i : Inf) (bs : Value) : List Value := [.int .u8 i.kind.toNat, .int .i64 i.at_, .int .i64 i.end_, .string i.vars, bs, .string i.scope]
/-- steps, six cells each, with all that stands within them -/
def SCells (w : World) (ok : Nat → Prop) : T → List Value → Prop
  | .nil, cs => cs = []
  | .cons i b0 b1 r, cs => ∃ (bs v0 v1 : Value) (rest c0 c1 : List Value), cs = six i bs ++ rest ∧
      SCells w ok b0 c0 ∧ Own6 w ok v0 b0.len c0 ∧ SCells w ok b1 c1 ∧ Own6 w ok v1 b1.len c1 ∧
      i.nb ≤ 2 ∧ Own w ok 54 bs ([v0, v1].take i.nb) ∧ SCells w ok r rest
theorem SCells.keep {w w' : World} {ok : Nat → Prop} (hk : ∀ j, ok j → j < w.heap.size → w'.heap[j]? = w.heap[j]?) : ∀ {t : T} {cs : List Value}, SCells w ok t cs → SCells w' ok t cs
  | .nil, _, h => h
  | .cons i b0 b1 r, _, h => by
    obtain ⟨bs, v0, v1, rest, c0, c1, e, h0, o0, h1, o1, hn, ob, hr⟩ := h
    exact ⟨bs, v0, v1, rest, c0, c1, e, h0.keep hk, o0.keep hk, h1.keep hk, o1.keep hk, hn, ob.keep hk, hr.keep hk⟩
theorem SCells.mono {w : World} {ok ok' : Nat → Prop} (hk : ∀ j, ok j → ok' j) : ∀ {t : T} {cs : List Value}, SCells w ok t cs → SCells w ok' t cs
  | .nil, _, h => h
  | .cons i b0 b1 r, _, h => by
    obtain ⟨bs, v0, v1, rest, c0, c1, e, h0, o0, h1, o1, hn, ob, hr⟩ := h
    exact ⟨bs, v0, v1, rest, c0, c1, e, h0.mono hk, o0.mono hk, h1.mono hk, o1.mono hk, hn, ob.mono hk, hr.mono hk⟩
theorem SCells.bound {w : World} {ok : Nat → Prop} : ∀ {t : T} {cs : List Value}, SCells w ok t cs → SCells w (fun j => ok j ∧ j < w.heap.size) t cs
  | .nil, _, h => h
  | .cons i b0 b1 r, _, h => by
    obtain ⟨bs, v0, v1, rest, c0, c1, e, h0, o0, h1, o1, hn, ob, hr⟩ := h
    exact ⟨bs, v0, v1, rest, c0, c1, e, h0.bound, o0.bound, h1.bound, o1.bound, hn, ob.bound, hr.bound⟩
theorem SCells.append {w : World} {ok : Nat → Prop} {u : T} {ds : List Value} (hu : SCells w ok u ds) : ∀ {t : T} {cs : List Value}, SCells w ok t cs → SCells w ok (t.append u) (cs ++ ds)
  | .nil, cs, h => by
    have : cs = [] := h
    subst this
    exact hu
  | .cons i b0 b1 r, _, h => by
    obtain ⟨bs, v0, v1, rest, c0, c1, e, h0, o0, h1, o1, hn, ob, hr⟩ := h
    subst e
    exact ⟨bs, v0, v1, rest ++ ds, c0, c1, List.append_assoc .., h0, o0, h1, o1, hn, ob, SCells.append hu hr⟩
theorem SCells.drewN {w : World} {ok : Nat → Prop} {t : T} {cs : List Value} (h : SCells w ok t cs) (k : Nat) : SCells (w.drewN k) ok t cs := SCells.keep (w := w) (w' := w.drewN k) (ok := ok) (fun _ _ _ => rfl) (t := t) (cs := cs) h
theorem len_append (u : T) : ∀ t : T, (t.append u).len = t.len + u.len
  | .nil => by simp [T.append, T.len]
  | .cons i b0 b1 r => by simp only [T.append, T.len]; rw [len_append u r]; omega

theorem info46 : (Try.prog.info? 46).map (fun i => (i.zero, i.size, i.bytes)) = some (some (.agg #[.int .u8 0, .int .i64 0, .int .i64 0, .string ByteArray.empty, .slice none 0 0, .string ByteArray.empty]), 6, 80) := by kernel_rfl
theorem cells_six_new (w : World) (i : Inf) (bs : Value) (t : TypeId) : ∀ j u, (six i bs)[j]? = some u → (w.alloc (.cells #[.int .u8 i.kind.toNat, .int .i64 i.at_, .int .i64 i.end_, .string i.vars, bs, .string i.scope] t)).cell? ((⟨w.heap.size, 0, none⟩ : Addr).add j) = some u := by
  exact World.news_of_block (cs := #[.int .u8 i.kind.toNat, .int .i64 i.at_, .int .i64 i.end_, .string i.vars, bs, .string i.scope]) (t := t) (fr := (0, 0)) (heap_alloc_new w _)
section
variable {P : Program} {ops : Array Oper} {rest : List Oper} {o : Oper} {a : Act} {Q : Exit → Act → World → Prop}
/-- append of one step to a row of the call's own -/
theorem wpList_app6 {W : World} {ok : Nat → Prop} (hgd : o.guard = none) (s x : Operand) (t : TypeId) (z : Value)
    (ho : o.op = .call { callee := .builtin .append, args := #[s, x], argTypes := #[t, t] })
    (ht : P.underlying t = some (.slice 46)) (hinfo : (P.info? 46).map (fun i => (i.zero, i.size, i.bytes)) = some (some z, 6, 80)) (hz : z.cells.size = 6)
    (v : Value) (n : Nat) (xs : List Value) (i : Inf) (bs : Value) (hs : a.eval s = v) (hx : a.eval x = .slice (some ⟨W.heap.size, 0, none⟩) 1 1) (h1 : bs.oneCell' = true)
    (HO : Own6 W ok v n xs) (hl : (n + 1) * 80 ≤ 140737488355328)
    (h : ∀ v1 w1, Own6 w1 (fun k => v.ownBlock = some k ∨ W.heap.size ≤ k) v1 (n + 1) (xs ++ six i bs) → W.grownBy w1 v.ownBlock → wpList P ops Q rest (a.put o.dst v1) w1) :
    wpList P ops Q (o :: rest) a (W.alloc (.cells #[.int .u8 i.kind.toNat, .int .i64 i.at_, .int .i64 i.end_, .string i.vars, bs, .string i.scope] 46)) := by
  obtain ⟨i0, hi, hzz⟩ := Option.map_eq_some_iff.1 hinfo
  simp only [Prod.mk.injEq] at hzz
  obtain ⟨hz0, hz1, hz2⟩ := hzz
  refine wpList_append_own_at _ hgd s x t ho 0 46 i0 z 6 80 ht hi hz0 hz1 hz2 hz (by omega) v n xs hs (HO.row.alloc _) ⟨W.heap.size, 0, none⟩ 1 1 (six i bs) hx rfl
    (cells_six_new W i bs 46) (fun u hu => by
      simp only [six, List.mem_cons, List.not_mem_nil, or_false] at hu
      rcases hu with rfl | rfl | rfl | rfl | rfl | rfl <;> first | rfl | exact h1) (by simp only [maxLen]; omega) hl (Nat.zero_le _) ?_
  intro v1 w1 hown hg _ hat
  refine h v1 w1 ⟨hown, fun k hk => ?_⟩ (World.grownBy.trans (World.grownBy_alloc W _ _) hg)
  rcases hat with hat | hat
  · exact .inl (hat ▸ hk)
  · rw [hat] at hk
    cases hk
    exact .inr (by simp)
end
/-- what lies apart from a row lies apart from it when it has grown -/
theorem sapart_grown {w1 w2 : World} {ok : Nat → Prop} {n : Nat} {u v : Value} {ys : List Value} {t : T} {cs : List Value} (h : SCells w1 ok t cs) (hne : ∀ j, ok j → j < w1.heap.size → some j ≠ u.ownBlock) (hg : w1.grownBy w2 u.ownBlock)
    (ho : Own6 w2 (fun k => u.ownBlock = some k ∨ w1.heap.size ≤ k) v n ys) : SCells w2 (fun j => ok j ∧ some j ≠ v.ownBlock) t cs := by
  refine (h.bound.keep (fun j hj hlt => hg.block j hlt (hne j hj.1 hj.2))).mono (fun j hj => ⟨hj.1, fun hv => ?_⟩)
  rcases ho.let_ j hv.symm with hu | hu
  · exact hne j hj.1 hj.2 hu.symm
  · have := hj.2
    omega

/-- the contract of the reference's reader of one step, and of its reader of a body -/
def SStepC (p : ByteArray) (n : Nat) : Prop := ∀ (w : World) (b : Nat) (ar : ByteArray) (s : RS), SRd w b p s → s.at_ = n → n < p.size → ar.size ≤ n → s.dep ≤ n →
  Calls Try.prog 56 #[.pointer (some ⟨b, 0, none⟩), .string ar] w fun e w' => ∃ bs v0 v1 c0 c1,
    e = .returned (.agg #[.int .u8 (SStep p ar s).1.kind.toNat, .int .i64 (SStep p ar s).1.at_, .int .i64 (SStep p ar s).1.end_, .string (SStep p ar s).1.vars, bs, .string (SStep p ar s).1.scope]) ∧
    SRd w' b p (SStep p ar s).2.2.2 ∧ w.grownBy w' (some b) ∧
    SCells w' (fun j => w.heap.size ≤ j) (SStep p ar s).2.1 c0 ∧ Own6 w' (fun j => w.heap.size ≤ j) v0 (SStep p ar s).2.1.len c0 ∧
    SCells w' (fun j => w.heap.size ≤ j) (SStep p ar s).2.2.1 c1 ∧ Own6 w' (fun j => w.heap.size ≤ j) v1 (SStep p ar s).2.2.1.len c1 ∧
    (SStep p ar s).1.nb ≤ 2 ∧ Own w' (fun j => w.heap.size ≤ j) 54 bs ([v0, v1].take (SStep p ar s).1.nb)
def SBodyC (p : ByteArray) (n : Nat) : Prop := ∀ (w : World) (b : Nat) (ar : ByteArray) (s : RS) (e : UInt8) (ei : Int), (e.toNat : Int) = ei → SRd w b p s → s.at_ = n → n ≤ p.size → ar.size ≤ n → s.dep ≤ n →
  Calls Try.prog 66 #[.pointer (some ⟨b, 0, none⟩), .string ar, .int .u8 ei] w fun d w' => ∃ v cs,
    d = .returned v ∧ SRd w' b p (SBody p ar e s).2 ∧ w.grownBy w' (some b) ∧ SCells w' (fun j => w.heap.size ≤ j) (SBody p ar e s).1 cs ∧ Own6 w' (fun j => w.heap.size ≤ j) v (SBody p ar e s).1.len cs

/-- the rounds' relation: so many steps are read, and the rest is to come -/
def SBodyRel (p ar : ByteArray) (e : UInt8) (s : RS) (b : Nat) (w : World) (k : Nat) (v : Value) (wr : World) : Prop :=
  ∃ acc cs t, SLoop p ar e s = (acc.append (SLoop p ar e t).1, (SLoop p ar e t).2) ∧ SRd wr b p t ∧ t.at_ ≤ p.size ∧ s.at_ ≤ t.at_ ∧ k = p.size - t.at_ ∧ acc.len ≤ t.at_ ∧ t.dep = s.dep ∧
    SCells wr (fun j => w.heap.size ≤ j ∧ some j ≠ v.ownBlock) acc cs ∧ Own6 wr (fun j => w.heap.size ≤ j) v acc.len cs ∧ w.grownBy wr (some b)

set_option maxHeartbeats 400000 in
theorem sbody_any (p : ByteArray) (n : Nat) (hp : p.size ≤ 80) (hS : ∀ m, n ≤ m → SStepC p m) : SBodyC p n := by
  intro w b ar s e ei hei hr hsn hn har hdep
  subst hsn
  have hlt := hr.lt
  go_enter Try.func66, Try.ntmps66
  go_wp2_with fail
  go_loopg [7] (p.size - s.at_) (fun k v wr => SBodyRel p ar e s b w k v wr)
  case atStart =>
    exact ⟨.nil, [], s, rfl, hr.grown (World.grownBy_alloc w _ none) (by simp), hn, Nat.le_refl _, rfl, Nat.zero_le _, rfl, rfl,
      ⟨World.ownsRow_made w #[] 0 (Nat.zero_le _) (by simp [maxLen]) rfl, fun k hk => by simp [Value.ownBlock] at hk; omega⟩, World.grownBy_alloc w _ _⟩
  case round =>
    obtain ⟨acc, cs, t, he, hrt, ht, hst, rfl, hl, htd, hc, ho, hg⟩ := hrel
    have HE := Lib.hid he
    have HC := Lib.hid hc
    have HO := Lib.hid ho
    have HG := Lib.hid hg
    clear he hc ho hg
    have h0 := hrt.c0
    have h1 := hrt.c1
    have h2 := hrt.c2
    by_cases hk : t.bad = false ∧ t.at_ < p.size ∧ bAt p t.at_ ≠ e
    · obtain ⟨hk0, hmlt, hk2⟩ := id hk
      have HK := Lib.hid hk
      rw [hk0] at h2
      have g1 : decide (t.at_ < p.size) = true := by simpa using hmlt
      have g2 : (((p[t.at_]'hmlt).toNat : Int) == ei) = false := by
        rw [bAt_get hmlt, beq_eq_false_iff_ne, ← hei]
        intro h
        exact hk2 ((byte_eq _ _).1 h)
      clear hk hk0 hk2 hei
      go_wp2_with fail
      go_quiet (fail)
      go_wp2_with fail
      refine (hS t.at_ hst (wr.drewN nq) b ar t (hrt.drewN nq) rfl hmlt (by omega) (by omega)).mono ?_
      rintro e1 w1 ⟨bs, v0, v1, c0, c1, rfl, hr1, hg1', sc0, so0, sc1, so1, hnb, sbs⟩
      have hg1 := World.grownBy.trans (grown_drewN wr nq _) hg1'
      clear hg1'
      have hgt : t.at_ < (SStep p ar t).2.2.2.at_ := SStep_ge p ar t hmlt
      have hle1 : (SStep p ar t).2.2.2.at_ ≤ p.size := SStep_le hmlt
      have hdp : (SStep p ar t).2.2.2.dep = t.dep := SStep_dep hmlt
      have hL : SLoop p ar e t = (.cons (SStep p ar t).1 (SStep p ar t).2.1 (SStep p ar t).2.2.1 (SLoop p ar e (SStep p ar t).2.2.2).1, (SLoop p ar e (SStep p ar t).2.2.2).2) := by rw [SLoop_eq, if_pos HK.out]
      obtain ⟨A, mm, cp, rfl⟩ : ∃ A m c, bs = .slice A m c := by
        obtain ⟨A, c, h⟩ := sbs.form
        exact ⟨A, _, c, h⟩
      generalize hq : SStep p ar t = q at *
      obtain ⟨i, b0, b1, s1⟩ := q
      simp only at *
      have hle := HG.out.size
      have hk1 := keep_of (B := w.heap.size) hg1 hlt
      have hacc : SCells w1 (fun j => w.heap.size ≤ j ∧ some j ≠ u7.ownBlock) acc cs := HC.out.keep (fun j hj hlt => hk1 j hj.1 hlt)
      have hout : Own6 w1 (fun j => w.heap.size ≤ j) u7 acc.len cs := HO.out.keep (fun j hj hlt => hk1 j hj hlt)
      have hlow : ∀ k, u7.ownBlock = some k → w.heap.size ≤ k ∧ k < wr.heap.size := fun k hk => HO.out.bound.let_ k hk
      have hbn : some b ≠ u7.ownBlock := fun hk => by have := (hlow b hk.symm).1; omega
      have hnew : SCells w1 (fun j => wr.heap.size ≤ j) (.cons i b0 b1 .nil) (six i (.slice A mm cp)) := ⟨_, v0, v1, [], c0, c1, (List.append_nil _).symm, sc0, so0, sc1, so1, hnb, sbs, rfl⟩
      have X1 := Lib.hid hacc
      have X2 := Lib.hid hout
      have X3 := Lib.hid hnew
      have X4 := Lib.hid hg1
      have X5 := Lib.hid hlow
      have X6 := Lib.hid hbn
      have X7 := Lib.hid hL
      have X8 := Lib.hid hdp
      have hle1' := hg1.size
      have hcl : (acc.len + 1) * 80 ≤ 140737488355328 := by omega
      clear hacc hout hnew hg1 h0 h1 h2 g1 g2 hk1 hlow hbn hL hdp sc0 so0 sc1 so1 hnb sbs hq
      go_wp2_with (at_builtin; refine wpList_app6 rfl _ _ 54 (.agg #[.int .u8 0, .int .i64 0, .int .i64 0, .string ByteArray.empty, .slice none 0 0, .string ByteArray.empty]) rfl Try.underlying54 info46 rfl u7 acc.len cs i (.slice A mm cp) rfl rfl rfl X2.out hcl ?_)
      intro v2 w2 ho2 hg2
      go_wp2_with fail
      go_roundg (p.size - s1.at_)
      case measure => omega
      case rel =>
        have hA := sapart_grown X1.out (fun j hj _ => hj.2) hg2 ho2
        have hN := sapart_grown X3.out (fun j hj _ hk => by have := (X5.out j hk.symm).2; omega) hg2 ho2
        refine ⟨acc.append (.cons i b0 b1 .nil), cs ++ six i (.slice A mm cp), s1, ?_, hr1.grown hg2 X6.out, hle1, by omega, rfl, by rw [len_append]; simp only [T.len]; omega, X8.out.trans htd,
          SCells.append (hN.mono (fun j hj => ⟨by omega, hj.2⟩)) (hA.mono (fun j hj => ⟨hj.1.1, hj.2⟩)), (len_append (.cons i b0 b1 .nil) acc) ▸ ho2.mono (fun j hj => ?_), ?_⟩
        · rw [HE.out, X7.out]
          simp only []
          rw [append_assoc1]
        · rcases hj with hj | hj
          · exact (X5.out j hj).1
          · omega
        · exact (World.grownBy.trans HG.out X4.out).andThen hg2 (fun j hj => .inl (X5.out j hj).1)
    · have hL : SLoop p ar e t = (.nil, t) := by rw [SLoop_eq, if_neg hk]
      have HB : SBody p ar e s = (acc, sis p e t) := by rw [SBody_eq, HE.out, hL, append_nil]
      have XB := Lib.hid HB
      have hkk : t.bad = true ∨ (t.bad = false ∧ ¬ t.at_ < p.size) ∨ (t.bad = false ∧ ∃ h : t.at_ < p.size, bAt p t.at_ = e) := by
        cases hb : t.bad
        · right
          by_cases hm : t.at_ < p.size
          · right
            refine ⟨rfl, hm, ?_⟩
            by_cases hbe : bAt p t.at_ = e
            · exact hbe
            · exact absurd ⟨hb, hm, hbe⟩ hk
          · exact .inl ⟨rfl, hm⟩
        · exact .inl rfl
      clear hk hL HB
      obtain ⟨A, cp, rfl⟩ := HO.out.form
      have HI := Lib.hid hei
      clear hei
      rcases hkk with hb | ⟨hb, hm⟩ | ⟨hb, hm, hbe⟩
      · rw [hb] at h2
        clear hb
        go_wp2_with fail
        go_quiet (fail)
        go_wp2_with fail
        refine (is_any (wr.drewN nq) b p t e ei HI.out (hrt.drewN nq) (by omega)).mono ?_
        rintro e1 w1 ⟨rfl, hr1, hg1⟩
        have hg := World.grownBy.trans HG.out (World.grownBy.trans (grown_drewN wr nq _) hg1)
        have hk1 := keep_of (B := w.heap.size) (World.grownBy.trans (grown_drewN wr nq _) hg1) hlt
        have hcc : SCells w1 (fun j => w.heap.size ≤ j) acc cs := (HC.out.keep (fun j hj hlt => hk1 j hj.1 hlt)).mono (fun j hj => hj.1)
        have hoo : Own6 w1 (fun j => w.heap.size ≤ j) (.slice A acc.len cp) acc.len cs := HO.out.keep (fun j hj hlt => hk1 j hj hlt)
        have Y1 := Lib.hid hcc
        have Y2 := Lib.hid hoo
        have Y3 := Lib.hid hg
        clear hg1 hg hk1 hcc hoo
        go_wp2_with fail
        go_ret
        exact ⟨_, cs, rfl, by rw [XB.out]; exact hr1, Y3.out, by rw [XB.out]; exact Y1.out, by rw [XB.out]; exact Y2.out⟩
      · rw [hb] at h2
        have g1 : decide (t.at_ < p.size) = false := by simpa using hm
        clear hb
        go_wp2_with fail
        go_quiet (fail)
        go_wp2_with fail
        refine (is_any (wr.drewN nq) b p t e ei HI.out (hrt.drewN nq) (by omega)).mono ?_
        rintro e1 w1 ⟨rfl, hr1, hg1⟩
        have hg := World.grownBy.trans HG.out (World.grownBy.trans (grown_drewN wr nq _) hg1)
        have hk1 := keep_of (B := w.heap.size) (World.grownBy.trans (grown_drewN wr nq _) hg1) hlt
        have hcc : SCells w1 (fun j => w.heap.size ≤ j) acc cs := (HC.out.keep (fun j hj hlt => hk1 j hj.1 hlt)).mono (fun j hj => hj.1)
        have hoo : Own6 w1 (fun j => w.heap.size ≤ j) (.slice A acc.len cp) acc.len cs := HO.out.keep (fun j hj hlt => hk1 j hj hlt)
        have Y1 := Lib.hid hcc
        have Y2 := Lib.hid hoo
        have Y3 := Lib.hid hg
        clear hg1 hg hk1 hcc hoo
        go_wp2_with fail
        go_ret
        exact ⟨_, cs, rfl, by rw [XB.out]; exact hr1, Y3.out, by rw [XB.out]; exact Y1.out, by rw [XB.out]; exact Y2.out⟩
      · rw [hb] at h2
        have g1 : decide (t.at_ < p.size) = true := by simpa using hm
        have g2 : (((p[t.at_]'hm).toNat : Int) == ei) = true := by rw [bAt_get hm, hbe, HI.out]; simp
        clear hb hbe
        go_wp2_with fail
        go_quiet (fail)
        go_wp2_with fail
        refine (is_any (wr.drewN nq) b p t e ei HI.out (hrt.drewN nq) (by omega)).mono ?_
        rintro e1 w1 ⟨rfl, hr1, hg1⟩
        have hg := World.grownBy.trans HG.out (World.grownBy.trans (grown_drewN wr nq _) hg1)
        have hk1 := keep_of (B := w.heap.size) (World.grownBy.trans (grown_drewN wr nq _) hg1) hlt
        have hcc : SCells w1 (fun j => w.heap.size ≤ j) acc cs := (HC.out.keep (fun j hj hlt => hk1 j hj.1 hlt)).mono (fun j hj => hj.1)
        have hoo : Own6 w1 (fun j => w.heap.size ≤ j) (.slice A acc.len cp) acc.len cs := HO.out.keep (fun j hj hlt => hk1 j hj hlt)
        have Y1 := Lib.hid hcc
        have Y2 := Lib.hid hoo
        have Y3 := Lib.hid hg
        clear hg1 hg hk1 hcc hoo
        go_wp2_with fail
        go_ret
        exact ⟨_, cs, rfl, by rw [XB.out]; exact hr1, Y3.out, by rw [XB.out]; exact Y1.out, by rw [XB.out]; exact Y2.out⟩
end Go.Proofs.Ytopgkaekbbaglaa
