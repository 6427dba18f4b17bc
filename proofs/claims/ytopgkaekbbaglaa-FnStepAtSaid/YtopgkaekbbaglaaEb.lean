/- All steps of a program: the reference's function, walked over the trees that its reader makes. -/
import Derived.Test.YtopgkaekbbaglaaEa
import Derived.Test.YtopgkaekbbaglaaDd
namespace Go.Proofs.Ytopgkaekbbaglaa
open Go.RowKit Pl

/-- the cells of steps, six each -/
def Sixes : List Inf → List Value → Prop
  | [], xs => xs = []
  | i :: l, xs => ∃ (A : Option Addr) (n c : Nat) (rest : List Value), xs = six i (.slice A n c) ++ rest ∧ Sixes l rest
theorem Sixes.append {l' : List Inf} {ys : List Value} (h' : Sixes l' ys) : ∀ {l : List Inf} {xs : List Value}, Sixes l xs → Sixes (l ++ l') (xs ++ ys)
  | [], xs, h => by
    have : xs = [] := h
    subst this
    exact h'
  | i :: l, _, h => by
    obtain ⟨A, n, c, rest, e, hr⟩ := h
    subst e
    exact ⟨A, n, c, rest ++ ys, List.append_assoc .., Sixes.append h' hr⟩
theorem Sixes.one : ∀ {l : List Inf} {xs : List Value}, Sixes l xs → ∀ u ∈ xs, u.oneCell' = true
  | [], xs, h, u, hu => by
    have : xs = [] := h
    subst this
    cases hu
  | i :: l, _, h, u, hu => by
    obtain ⟨A, n, c, rest, e, hr⟩ := h
    subst e
    rcases List.mem_append.1 hu with hu | hu
    · simp only [six, List.mem_cons, List.not_mem_nil, or_false] at hu
      rcases hu with rfl | rfl | rfl | rfl | rfl | rfl <;> rfl
    · exact Sixes.one hr u hu
theorem Sixes.at : ∀ {l : List Inf} {xs : List Value}, Sixes l xs → ∀ {k : Nat} (hk : k < l.length), ∃ A n c, (xs.drop (k * 6)).take 6 = six l[k] (.slice A n c)
  | [], _, _, k, hk => by simp at hk
  | i :: l, _, h, k, hk => by
    obtain ⟨A, n, c, rest, e, hr⟩ := h
    subst e
    cases k with
    | zero => exact ⟨A, n, c, by simp only [Nat.zero_mul, List.drop_zero]; exact List.take_left' (six_length i _)⟩
    | succ k =>
      obtain ⟨A', n', c', e'⟩ := Sixes.at hr (k := k) (by simpa using hk)
      refine ⟨A', n', c', ?_⟩
      rw [show (k + 1) * 6 = 6 + k * 6 by omega, ← List.drop_drop, List.drop_left' (six_length i _)]
      simpa using e'
/-- what the list of all steps is -/
def EachPost (w : World) (L : List Inf) (e : Ending) (w' : World) : Prop :=
  ∃ v xs, e = .returned v ∧ Below w.heap.size w w' ∧ Own6 w' (fun j => w.heap.size ≤ j) v L.length xs ∧ Sixes L xs
def EachC (i : Inf) (b0 b1 : T) : Prop := ∀ (w : World) (ok : Nat → Prop) (A : Option Addr) (c : Nat), (∀ j, ok j → j < w.heap.size) → SCells w ok (.cons i b0 b1 .nil) (six i (.slice A i.nb c)) →
  Calls Try.prog 45 #[.agg #[.int .u8 i.kind.toNat, .int .i64 i.at_, .int .i64 i.end_, .string i.vars, .slice A i.nb c, .string i.scope]] w (EachPost w (T.cons i b0 b1 .nil).flat)
/-- so many steps are listed -/
def Listed (w : World) (i : Inf) (bs : Value) (done : List Inf) (a : Value) (wr : World) : Prop :=
  ∃ xs, Own6 wr (fun j => w.heap.size < j) a done.length xs ∧ Sixes done xs ∧ Kept1 w i bs wr
def ListRel (w : World) (ok : Nat → Prop) (i : Inf) (bs : Value) (cs : List Value) (n : Nat) (L : List Inf) (N : Nat) (a i' : Value) (wr : World) : Prop :=
  ∃ (k : Nat) (r : T) (done : List Inf), k ≤ n ∧ i' = .int .i64 k ∧ SCells w ok r (cs.drop (k * 6)) ∧ done ++ r.flat = L ∧ r.count ≤ N ∧ Listed w i bs done a wr
theorem listed_start (w : World) (i : Inf) (A : Option Addr) (n c : Nat) :
    Listed w i (.slice A n c) [i] (.slice (some ⟨w.heap.size + 1, 0, none⟩) 1 1)
      ((w.alloc (.cells #[.int .u8 i.kind.toNat, .int .i64 i.at_, .int .i64 i.end_, .string i.vars, .slice A n c, .string i.scope] 46)).alloc (.cells #[.int .u8 i.kind.toNat, .int .i64 i.at_, .int .i64 i.end_, .string i.vars, .slice A n c, .string i.scope] 46)) := by
  refine ⟨six i (.slice A n c), ⟨⟨rfl, .inr ⟨w.heap.size + 1, 1, _, rfl, Nat.zero_le _, heap_alloc_next w _ _, Nat.le_refl _, by simp [maxLen], rfl, rfl⟩⟩, fun k hk => by simp [Value.ownBlock] at hk; omega⟩, ⟨A, n, c, [], (List.append_nil _).symm, rfl⟩, (Kept1.start w i _).on (below_of (World.grownBy_alloc _ _ none))⟩
section
variable {P : Program} {ops : Array Oper} {rest : List Oper} {o : Oper} {a : Act} {Q : Exit → Act → World → Prop}
/-- append of a row of steps to a row of the call's own -/
theorem wpList_rows6 {W : World} {ok ok2 : Nat → Prop} (hgd : o.guard = none) (s x : Operand) (t : TypeId) (z : Value)
    (ho : o.op = .call { callee := .builtin .append, args := #[s, x], argTypes := #[t, t] })
    (ht : P.underlying t = some (.slice 46)) (hinfo : (P.info? 46).map (fun i => (i.zero, i.size, i.bytes)) = some (some z, 6, 80)) (hz : z.cells.size = 6)
    (v : Value) (n : Nat) (xs : List Value) (g m c : Nat) (ys : List Value) (hs : a.eval s = v) (hx : a.eval x = .slice (some ⟨g, 0, none⟩) m c) (h1 : ∀ u ∈ ys, u.oneCell' = true)
    (HO : Own6 W ok v n xs) (HY : Own6 W ok2 (.slice (some ⟨g, 0, none⟩) m c) m ys) (hl : (n + m) * 80 ≤ 140737488355328)
    (h : ∀ v1 w1, Own6 w1 (fun k => v.ownBlock = some k ∨ W.heap.size ≤ k) v1 (n + m) (xs ++ ys) → W.grownBy w1 v.ownBlock → wpList P ops Q rest (a.put o.dst v1) w1) :
    wpList P ops Q (o :: rest) a W := by
  obtain ⟨i0, hi, hzz⟩ := Option.map_eq_some_iff.1 hinfo
  simp only [Prod.mk.injEq] at hzz
  obtain ⟨hz0, hz1, hz2⟩ := hzz
  refine wpList_append_own_at _ hgd s x t ho 0 46 i0 z 6 80 ht hi hz0 hz1 hz2 hz (by omega) v n xs hs HO.row ⟨g, 0, none⟩ m c ys hx HY.row.1
    (World.ownsRow.cells HY.row rfl) h1 (by simp only [maxLen]; omega) hl (Nat.zero_le _) ?_
  intro v1 w1 hown hg _ hat
  refine h v1 w1 ⟨hown, fun k hk => ?_⟩ hg
  rcases hat with hat | hat
  · exact .inl (hat ▸ hk)
  · rw [hat] at hk
    cases hk
    exact .inr (Nat.le_refl _)
end
theorem Own6.some {w : World} {ok : Nat → Prop} {v : Value} {n : Nat} {xs : List Value} (h : Own6 w ok v n xs) (hn : 0 < n) : ∃ g c, v = .slice (some ⟨g, 0, none⟩) n c := by
  rcases h.row.2 with ⟨_, h0⟩ | ⟨g, cap, cur, hv, _⟩
  · omega
  · exact ⟨g, cap, hv⟩
theorem flat_pos (i : Inf) (b0 b1 r : T) : 0 < (T.cons i b0 b1 r).flat.length := by simp [T.flat]
/-- a further row of steps is listed -/
theorem listed_on {w wr w4 w5 : World} {i : Inf} {bs a v1 : Value} {done L : List Inf} {xs ys : List Value} (hO : Own6 wr (fun j => w.heap.size < j) a done.length xs) (hN : Sixes done xs) (hK : Kept1 w i bs wr)
    (hb : Below wr.heap.size wr w4) (hY : Sixes L ys) (h1 : Own6 w5 (fun k => a.ownBlock = some k ∨ w4.heap.size ≤ k) v1 (done.length + L.length) (xs ++ ys)) (hg : w4.grownBy w5 a.ownBlock) : Listed w i bs (done ++ L) v1 w5 := by
  have hs := hb.size
  have hlt := hK.box.lt
  have hK4 := hK.on hb
  have h1' : Own6 w5 (fun j => w.heap.size < j) v1 (done.length + L.length) (xs ++ ys) := h1.mono (fun k hk => by
    rcases hk with hk | hk
    · exact hO.let_ k hk
    · omega)
  refine ⟨xs ++ ys, by rw [List.length_append]; exact h1', Sixes.append hY hN, ?_, ?_⟩
  · refine hK4.below.trans ⟨hg.os, hg.tape, hg.output, hg.size, fun k hk => hg.block k (by omega) (fun e => ?_)⟩
    have := hO.let_ k e.symm
    omega
  · exact hK4.box.grown hg (fun e => by have := hO.let_ _ e.symm; omega)

set_option maxHeartbeats 1600000 in
set_option maxRecDepth 1000000 in
theorem each_step (i : Inf) (b0 b1 : T) (hm : (T.cons i b0 b1 .nil).count ≤ 1000000) (ih : ∀ j c0 c1, (T.cons j c0 c1 .nil).count < (T.cons i b0 b1 .nil).count → EachC j c0 c1) : EachC i b0 b1 := by
  intro w ok A c hok hP
  obtain ⟨A', c', e, hn, hb⟩ := sstep_parts hP
  injection e with e1 e2 e3
  subst e1 e3
  have HB := Lib.hid hb
  have IH := Lib.hid ih
  have HF := Lib.hid (oflat_all i b0 b1 hn)
  have HOK := Lib.hid hok
  have hfc := flat_count (T.cons i b0 b1 .nil)
  have HFC := Lib.hid hfc
  simp only [T.count] at hm
  clear hP hb ih hok hfc
  go_enter Try.func45, Try.ntmps45
  go_wp2_with fail
  go_loopw [3, 13] (fun a i' wr => ∃ j : Nat, j ≤ i.nb ∧ i' = .int .i64 j ∧ Listed w i (.slice A i.nb c) (oflat i b0 b1 j) a wr) (fun _ i' _ => i.nb - (intOf i').toNat)
  case atStart => exact ⟨0, Nat.zero_le _, rfl, listed_start w i A i.nb c⟩
  case round =>
    obtain ⟨j, hj, rfl, hL0⟩ := hrel
    obtain ⟨wo, rfl⟩ : ∃ wo : World, wo = wr := ⟨_, rfl⟩
    obtain ⟨ao, rfl⟩ : ∃ ao : Value, ao = u3 := ⟨_, rfl⟩
    obtain ⟨xs0, hO0, hN0, hK0⟩ := hL0
    obtain ⟨Aa, ca, rfl⟩ := hO0.form
    have HL0 := Lib.hid (show Listed w i (.slice A i.nb c) (oflat i b0 b1 j) (.slice Aa (oflat i b0 b1 j).length ca) wo from ⟨xs0, hO0, hN0, hK0⟩)
    have HK := Lib.hid hK0
    clear hO0 hN0 hK0
    by_cases hlt : j < i.nb
    · obtain ⟨gb, B, d, cs, rfl, hc0, hP, hO, _⟩ := HB.out.at hlt
      have hc := below_cell HK.out.below hc0
      have HP := Lib.hid hP
      have HO := Lib.hid hO
      have hcl := len_count (if j = 0 then b0 else b1)
      have hlen := hO.row.1
      have HLen := Lib.hid hlen
      clear hP hO hc0 hlen
      have hbc := body_count b0 b1 j
      have HS := Lib.hid (oflat_step i b0 b1 (j := j) (by omega))
      generalize (if j = 0 then b0 else b1) = bj at *
      go_wp2_with fail
      go_loopw [3, 19] (fun a i' wr => ListRel w ok i (.slice (some ⟨gb, 0, none⟩) i.nb c) cs bj.len (oflat i b0 b1 (j + 1)) (b0.count + b1.count) a i' wr) (fun _ i' _ => bj.len - (intOf i').toNat)
      case atStart => exact ⟨0, bj, oflat i b0 b1 j, Nat.zero_le _, rfl, HP.out, HS.out.symm, hbc, HL0.out⟩
      case round =>
        clear hc HK HL0 HP
        obtain ⟨k, r, done, hk, rfl, hr, hL, hcn, hl⟩ := hrel
        obtain ⟨xs1, hO1, hN1, hK1⟩ := hl
        obtain ⟨Ab, cb, rfl⟩ := hO1.form
        have HL1 := Lib.hid hL
        by_cases hlt2 : k < bj.len
        · obtain ⟨g2, i2, d0, d1, r2, A2, c2, rfl, rfl, hsix, hp1, hp2, _⟩ := selem_at hr HO.out hlt2
          have hs := hsix.below hK1.below
          obtain ⟨s0, s1, s2, s3, s4, s5⟩ := hs
          have HR := Lib.hid hp2
          have hK3 := hK1.on (below_of (World.grownBy_alloc wr (.cells #[.int .u8 i2.kind.toNat, .int .i64 i2.at_, .int .i64 i2.end_, .string i2.vars, .slice A2 i2.nb c2, .string i2.scope] 46) none))
          have hdl : (done ++ (T.cons i2 d0 d1 r2).flat).length ≤ (T.cons i b0 b1 .nil).flat.length := by rw [hL]; exact oflat_le i b0 b1 hn hlt
          rw [flat_cons, List.length_append, List.length_append] at hdl
          have hfc := HFC.out
          simp only [T.count] at hcn hfc
          have hih := IH.out i2 d0 d1 (by simp only [T.count]; omega) _ ok A2 c2 (fun q hq => Nat.lt_of_lt_of_le (HOK.out q hq) hK3.below.size) (hp1.keep (below_ok hK3.below HOK.out))
          have HIH := Lib.hid hih
          have HK1 := Lib.hid hK1
          have HO1 := Lib.hid hO1
          have HN1 := Lib.hid hN1
          have hbd : (done.length + (T.cons i2 d0 d1 .nil).flat.length) * 80 ≤ 140737488355328 := by omega
          clear hih hK3 hr hp1 hp2 hsix hK1 hO1 hN1 hL hdl hfc
          go_wp2_with fail
          refine HIH.out.mono ?_
          rintro e w4 ⟨v4, ys, rfl, hb4, hO4, hN4⟩
          obtain ⟨g4, c4, rfl⟩ := hO4.some (flat_pos i2 d0 d1 .nil)
          have hb5 := (below_of (World.grownBy_alloc wr (.cells #[.int .u8 i2.kind.toNat, .int .i64 i2.at_, .int .i64 i2.end_, .string i2.vars, .slice A2 i2.nb c2, .string i2.scope] 46) none)).trans (hb4.mono (by simp))
          have HB5 := Lib.hid hb5
          have HO4 := Lib.hid hO4
          have HN4 := Lib.hid hN4
          have HO5 := Lib.hid (HO1.out.keep (fun j _ hj => hb5.block j hj))
          clear hb4 hb5 hO4 hN4 s0 s1 s2 s3 s4 s5
          have HFC2 := Lib.hid (flat_cons i2 d0 d1 r2)
          generalize (T.cons i2 d0 d1 .nil).flat = L2 at *
          go_wp2_with (at_builtin; refine wpList_rows6 rfl _ _ 54 (.agg #[.int .u8 0, .int .i64 0, .int .i64 0, .string ByteArray.empty, .slice none 0 0, .string ByteArray.empty]) rfl Try.underlying54 info46 rfl (.slice Ab done.length cb) done.length xs1 g4 L2.length c4 ys rfl rfl HN4.out.one HO5.out HO4.out hbd ?_)
          intro v5 w5 ho5 hg5
          have HL5 := Lib.hid (listed_on HO1.out HN1.out HK1.out HB5.out HN4.out ho5 hg5)
          clear ho5 hg5
          go_wp2_with fail
          go_roundw
          case rel => exact ⟨k + 1, r2, done ++ L2, hlt2, by go_num, HR.out, by rw [List.append_assoc, ← HFC2.out]; exact HL1.out, by omega, HL5.out⟩
          case measure => simp [intOf]; omega
        · have hr0 : r = .nil := scells_end HLen.out (by omega) hr
          subst hr0
          have HL2 := Lib.hid (show Listed w i (.slice (some ⟨gb, 0, none⟩) i.nb c) (oflat i b0 b1 (j + 1)) (.slice Ab done.length cb) wr by rw [← HL1.out, show T.nil.flat = [] from rfl, List.append_nil]; exact ⟨xs1, hO1, hN1, hK1⟩)
          clear hr hO1 hN1 hK1 hL
          go_wp2_with fail
          go_roundw
          case rel => exact ⟨j + 1, hlt, by go_num, HL2.out⟩
          case measure => simp [intOf]; omega
    · have hjn : j = i.nb := by omega
      subst hjn
      go_wp2_with fail
      go_ret
      rw [HF.out]
      obtain ⟨xs, h1, h2, h3⟩ := HL0.out
      exact ⟨_, xs, rfl, h3.below, h1.mono (fun k hk => by omega), h2⟩
theorem each_any : ∀ (n : Nat) (i : Inf) (b0 b1 : T), n ≤ 1000000 → (T.cons i b0 b1 .nil).count ≤ n → EachC i b0 b1 := by
  intro n
  induction n with
  | zero => intro i b0 b1 _ h; simp [T.count] at h
  | succ n ih => exact fun i b0 b1 hn h => each_step i b0 b1 (by omega) (fun j c0 c1 hj => ih j c0 c1 (by omega) (by omega))
end Go.Proofs.Ytopgkaekbbaglaa
