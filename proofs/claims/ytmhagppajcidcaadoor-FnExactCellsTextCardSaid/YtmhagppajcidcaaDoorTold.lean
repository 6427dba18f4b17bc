/- The contract of the program's reader of events. -/
import Derived.Test.YtmhagppajcidcaaDoorTmap
import Derived.Test.YtmhagppajcidcaaDoorItoa
import Derived.Deep.RegionWith
import Derived.RegionTactic
import Derived.Handy
import Derived.Outline
import Derived.Lib.AtoiBound
import Derived.Deep.DeepCutAuto
import Derived.Deep.CutBlock
import Derived.Deep.QuietTactic
import Derived.BigQuiet
import Derived.BigCall
import Derived.BigRegion
namespace Go.Proofs.YtmhagppajcidcaaDoor.Pr
open Go.RowKit Go.Proofs.YtmhagppajcidcaaDoorW.PrintWords Go.Proofs.YtmhagppajcidcaaDoorW.PrintLast

/-- what is told so far: the events, how many values are made, which of them are alive -/
structure Tst where
  out : List S50
  made : Int
  live : List Int
def sgn (s : ByteArray) : ByteArray := s.extract 0 1
def dig (s : ByteArray) : ByteArray := s.extract 1 s.size
/-- the number of an event that is written as it should be -/
def numOf (s : ByteArray) : Option Int := match Lib.atoiAll (dig s).data.toList with
  | .ok n => if Lib.itoa n = (dig s).data.toList then some n else none
  | _ => none
def tsign (st : Tst) (s : ByteArray) (n : Int) : Option Tst :=
  if (sgn s).toList = [43] ∧ n = st.made + 1 then some ⟨st.out ++ [⟨sgn s, n⟩], st.made + 1, st.live ++ [n]⟩
  else if (sgn s).toList = [46] ∧ n ∈ st.live then some ⟨st.out ++ [⟨sgn s, n⟩], st.made, st.live⟩
  else if (sgn s).toList = [45] ∧ n ∈ st.live then some ⟨st.out ++ [⟨sgn s, n⟩], st.made, st.live.filter (fun y => y != n)⟩
  else none
def tstep (st : Tst) (s : ByteArray) : Option Tst :=
  if s.size = 0 then none else match numOf s with
    | none => none
    | some n => if st.out.length = 600 then none else tsign st s n
def tloop : List ByteArray → Tst → Option Tst
  | [], st => some st
  | s :: r, st => match tstep st s with
    | none => none
    | some st' => tloop r st'
def pieces (a0 : ByteArray) : List ByteArray := Lib.splitB ⟨#[32]⟩ 0 (Lib.countB a0 ⟨#[32]⟩) a0
def toldOf (a0 : ByteArray) : List S50 × Int × Bool :=
  if a0.toList = [45] then ([], 0, true) else match tloop (pieces a0) ⟨[], 0, []⟩ with
    | none => ([], 0, false)
    | some st => (st.out, st.made, true)
def impl_told.f (a0 : ByteArray) : Option ((List (S50)) × Int × Bool) := if a0.size ≤ 1048576 then some (toldOf a0) else none

/-- what stands while events are read: the map of what is alive, the events' row, the pieces -/
structure TIn (w0 : World) (B g n : Nat) (ws : List ByteArray) (v : Value) (out : List S50) (live : List Int) (wr : World) : Prop where
  below : Below w0.heap.size w0 wr
  map : AliveMap wr B n live
  baseB : w0.heap.size ≤ B
  row : Kd.R k50 50 wr w0.heap.size (fun _ => True) v out
  words : wr.heap[g]? = some (.cells (ws.map Value.string).toArray 9 (0, 0))
  baseg : w0.heap.size ≤ g
section
variable {w0 wr w' : World} {B g n : Nat} {ws : List ByteArray} {v v' : Value} {out : List S50} {live : List Int}
theorem TIn.on (h : TIn w0 B g n ws v out live wr) (hb : Below wr.heap.size wr w') : TIn w0 B g n ws v out live w' :=
  ⟨h.below.trans (hb.mono h.below.size), h.map.kept (hb.block _ h.map.lt), h.baseB, Kd.R_below h.row hb, (hb.block _ (blk_lt h.words)).trans h.words, h.baseg⟩
theorem TIn.ne (h : TIn w0 B g n ws v out live wr) : some B ≠ v.ownBlock ∧ some g ≠ v.ownBlock ∧ B ≠ g := by
  obtain ⟨es, clock, hm⟩ := h.map.isMapObj
  refine ⟨fun e => ?_, fun e => ?_, fun e => ?_⟩
  · obtain ⟨cells, hc⟩ := Kd.R_typed h.row B e.symm
    rw [hm] at hc
    cases hc
  · obtain ⟨cells, hc⟩ := Kd.R_typed h.row g e.symm
    rw [h.words] at hc
    injection hc with hc
    injection hc with _ hc
    cases hc
  · subst e
    have := h.words
    rw [hm] at this
    cases this
/-- the map is written -/
theorem TIn.mapped (h : TIn w0 B g n ws v out live wr) {live' : List Int} {n' : Nat} (hm : AliveMap w' B n' live') (hg : wr.grownBy w' (some B)) : TIn w0 B g n' ws v out live' w' := by
  obtain ⟨h1, h2, h3⟩ := h.ne
  refine ⟨h.below.trans ⟨hg.os, hg.tape, hg.output, hg.size, fun k hk => hg.block k (Nat.lt_of_lt_of_le hk h.below.size) (fun e => by injection e with e; have := h.baseB; omega)⟩, hm, h.baseB, ?_, ?_, h.baseg⟩
  · exact Kd.R_mono (Kd.R_grown (Kd.R_tight rfl h.row) hg (fun k hk e => h1 (e.symm.trans hk))) (fun _ _ => trivial)
  · exact (hg.block g (blk_lt h.words) (fun e => h3 (by injection e with e; exact e.symm))).trans h.words
/-- an event is listed -/
theorem TIn.listed (h : TIn w0 B g n ws v out live wr) {W : World} {x : S50} (hW : TIn w0 B g n ws v out live W) (hr : Kd.R k50 50 w' w0.heap.size (fun _ => True) v' (out ++ [x])) (hb : Below w0.heap.size w0 w') (hg : W.grownBy w' v.ownBlock) : TIn w0 B g n ws v' (out ++ [x]) live w' := by
  obtain ⟨h1, h2, h3⟩ := hW.ne
  exact ⟨hb, hW.map.kept (hg.block _ hW.map.lt h1), h.baseB, hr, (hg.block _ (blk_lt hW.words) h2).trans hW.words, h.baseg⟩
end

/-- the rounds' relation -/
def TRel (w0 : World) (B g : Nat) (ws : List ByteArray) (v5 v6 v22 : Value) (wr : World) : Prop :=
  ∃ (k : Nat) (st : Tst) (m : Nat), k ≤ ws.length ∧ v22 = .int .i64 k ∧ v6 = .int .i64 st.made ∧ tloop ws ⟨[], 0, []⟩ = tloop (ws.drop k) st ∧ st.out.length ≤ 600 ∧ 0 ≤ st.made ∧ st.made ≤ st.out.length ∧ m ≤ st.out.length ∧ TIn w0 B g m ws v5 st.out st.live wr
theorem split_any (s : ByteArray) (w : World) (hLd : LaidW w) (hs : s.size ≤ 1048576) : Calls Tryd.prog 51 #[.string s, .string ⟨#[32]⟩] w fun e w' =>
    e = .returned (.slice (some ⟨w.heap.size, 0, none⟩) (Lib.countB s ⟨#[32]⟩ + 1) (Lib.countB s ⟨#[32]⟩ + 1)) ∧ w' = w.alloc (.cells ((pieces s).map Value.string).toArray 9) := by
  obtain ⟨m, hm⟩ := hLd.mlen
  exact Go.Proofs.Any.strings_Split { Tryd.laysM146 with } Tryd.laysM146.i9 s ⟨#[32]⟩ m w (by omega) hm (by decide)
theorem pieces_length (s : ByteArray) : (pieces s).length = Lib.countB s ⟨#[32]⟩ + 1 := Lib.splitB_all ⟨#[32]⟩ (by decide) 0 _ s rfl
def ToldPost (a0 : ByteArray) (w : World) (e : Ending) (w' : World) : Prop := ∃ v0_ : Value, e = .returned (.tuple #[v0_, .int .i64 (toldOf a0).2.1, .bool (toldOf a0).2.2]) ∧ Kd.R k50 50 w' w.heap.size (fun _ => True) v0_ (toldOf a0).1 ∧ Below w.heap.size w w'
theorem row_made (w : World) (base : Nat) (hb : base ≤ w.heap.size) : Kd.R k50 50 (w.alloc (.cells #[] 50)) base (fun _ => True) (.slice (some ⟨w.heap.size, 0, none⟩) 0 0) [] :=
  ⟨fun _ _ => trivial, [], World.ownsRow_made w #[] 0 hb (by simp [maxLen]) rfl, Reps.none _ _⟩
theorem below_a {w : World} (o : Obj) : Below w.heap.size w (w.alloc o) := (Below.refl _ w).alloc (Nat.le_refl _) o
theorem told_start (w : World) (ws : List ByteArray) : TIn w (w.heap.size + 1) (w.heap.size + 2) 0 ws (.slice (some ⟨w.heap.size, 0, none⟩) 0 0) [] [] (((w.alloc (.cells #[] 50)).alloc (.map #[] 0)).alloc (.cells (ws.map Value.string).toArray 9)) := by
  have h1 := below_a (w := w) (.cells #[] 50)
  have h2 := below_a (w := w.alloc (.cells #[] 50)) (.map #[] 0)
  have h3 := below_a (w := (w.alloc (.cells #[] 50)).alloc (.map #[] 0)) (.cells (ws.map Value.string).toArray 9)
  have hs1 : (w.alloc (.cells #[] 50)).heap.size = w.heap.size + 1 := by simp
  have hs2 : ((w.alloc (.cells #[] 50)).alloc (.map #[] 0)).heap.size = w.heap.size + 2 := by simp
  have hm := AliveMap.start (w.alloc (.cells #[] 50))
  rw [hs1] at hm
  have hw := heap_alloc_new ((w.alloc (.cells #[] 50)).alloc (.map #[] 0)) (.cells (ws.map Value.string).toArray 9)
  rw [hs2] at hw
  exact ⟨(h1.trans (h2.mono h1.size)).trans (h3.mono (Nat.le_trans h1.size h2.size)), hm.kept (h3.block _ (by rw [hs2]; omega)), by omega, Kd.R_below (Kd.R_below (row_made w _ (Nat.le_refl _)) h2) h3, hw, by omega⟩
theorem words_at {w : World} {g : Nat} {ws : List ByteArray} (h : w.heap[g]? = some (.cells (ws.map Value.string).toArray 9 (0, 0))) {k : Nat} (hk : k < ws.length) : w.cell? ⟨g, k, none⟩ = some (.string ws[k]) := by
  rw [blk_cell h]
  simp [hk]
theorem tloop_drop {ws : List ByteArray} {k : Nat} (hk : k < ws.length) (st : Tst) : tloop (ws.drop k) st = match tstep st ws[k] with | none => none | some st' => tloop (ws.drop (k + 1)) st' := by
  rw [List.drop_eq_getElem_cons hk, tloop]
theorem tloop_end {ws : List ByteArray} {k : Nat} (hk : k = ws.length) (st : Tst) : tloop (ws.drop k) st = some st := by
  rw [hk, List.drop_length, tloop]
theorem told_no {a0 : ByteArray} {w W : World} (h : toldOf a0 = ([], 0, false)) (hb : Below w.heap.size w W) : ToldPost a0 w (.returned (.tuple #[.slice none 0 0, .int .i64 0, .bool false])) W :=
  ⟨.slice none 0 0, by rw [h], by rw [h]; exact Kd.R_nil _ _ _ _ _, hb⟩
theorem empty_size {s : ByteArray} : s.toList.isEmpty = decide (s.size = 0) := by
  rw [Lib.toList_data]
  have h : s.data.toList.length = s.size := Array.length_toList
  cases hs : s.data.toList with
  | nil => rw [hs] at h; simp at h; simp [← h]
  | cons a l => rw [hs] at h; simp at h; simp [← h]
theorem splitB_sizes (sep : ByteArray) : ∀ (k : Nat) (s x : ByteArray), x ∈ Lib.splitB sep 0 k s → x.size ≤ s.size
  | 0, s, x, h => by
    simp [Lib.splitB] at h
    rw [h]
    exact Nat.le_refl _
  | k + 1, s, x, h => by
    unfold Lib.splitB at h
    split at h
    · simp at h
      rw [h]
      exact Nat.le_refl _
    · rcases List.mem_cons.1 h with h | h
      · rw [h, ByteArray.size_extract]
        omega
      · have := splitB_sizes sep k _ x h
        rw [ByteArray.size_extract] at this
        omega
theorem pieces_size {a0 x : ByteArray} (h : x ∈ pieces a0) : x.size ≤ a0.size := splitB_sizes _ _ _ _ h
/-- strconv.Atoi, every way -/
def AtoiPost (s : ByteArray) (w : World) (e : Ending) (w' : World) : Prop := Below w.heap.size w w' ∧
  ((∃ n, Lib.atoiAll s.data.toList = .ok n ∧ e = .returned (.tuple #[.int .i64 n, .nilIface])) ∨
   (∃ m te pe, (∀ n, Lib.atoiAll s.data.toList ≠ .ok n) ∧ e = .returned (.tuple #[.int .i64 m, .iface te pe])))
theorem atoi_any (s : ByteArray) (w : World) (hLd : LaidW w) (hs : s.size ≤ 1048576) : Calls Tryd.prog 52 #[.string s] w (AtoiPost s w) := by
  cases h : Lib.atoiAll s.data.toList with
  | ok n =>
    refine (Tryd.strconv_Atoi_ok s (by omega) n h w).mono ?_
    rintro e w' ⟨rfl, hw⟩
    refine ⟨?_, .inl ⟨n, h, rfl⟩⟩
    rcases hw with rfl | ⟨t, rfl⟩
    · exact Below.refl _ _
    · exact bytes_below (Below.refl _ w) (Nat.le_refl _) _ _
  | «syntax» =>
    obtain ⟨tp, p, hv⟩ := hLd.syn
    refine (Tryd.strconv_Atoi_syntax_var s (by omega) h tp p w hv).mono ?_
    rintro e w' ⟨N, rfl, _, _, hb⟩
    exact ⟨hb, .inr ⟨_, _, _, (fun n hn => nomatch (h.symm.trans hn)), rfl⟩⟩
  | range =>
    obtain ⟨tp, p, hv⟩ := hLd.ran
    refine (Tryd.strconv_Atoi_range_var s (by omega) h tp p w hv).mono ?_
    rintro e w' ⟨N, rfl, _, _, hb⟩
    exact ⟨hb, .inr ⟨_, _, _, (fun n hn => nomatch (h.symm.trans hn)), rfl⟩⟩
theorem itoa_any (n : Int) (hn : (Lit.int .i64 n).wf = true) (w : World) (hLd : LaidW w) : Calls Tryd.prog 39 #[.int .i64 n] w fun e w' => ∃ b : ByteArray, Hid (b.toList = Lib.itoa n) ∧ e = .returned (.string b) ∧ Below w.heap.size w w' := by
  have h : -9223372036854775808 ≤ n ∧ n ≤ 9223372036854775807 := by
    have e1 : IntKind.i64.min = -9223372036854775808 := rfl
    have e2 : IntKind.i64.max = 9223372036854775807 := rfl
    simpa [Lit.wf, e1, e2] using hn
  refine (strconv_Itoa.calls n _ w hLd.toLaidT (by unfold strconv_Itoa.f; rw [if_pos h])).mono ?_
  rintro e w' ⟨rfl, hb⟩
  exact ⟨⟨(Lib.itoa n).toArray⟩, Lib.hid (by rw [Lib.toList_data]), rfl, hb⟩
theorem itoa_eq {n : Int} {b s : ByteArray} (hb : Hid (b.toList = Lib.itoa n)) (h : Lib.itoa n = (dig s).data.toList) : (b.toList == (s.extract 1 s.size).toList) = true := by
  rw [hb.out, Lib.toList_data]; exact beq_iff_eq.2 h
theorem itoa_neq {n : Int} {b s : ByteArray} (hb : Hid (b.toList = Lib.itoa n)) (h : ¬ Lib.itoa n = (dig s).data.toList) : (b.toList == (s.extract 1 s.size).toList) = false := by
  rw [hb.out, Lib.toList_data]; exact beq_eq_false_iff_ne.2 h
theorem below_dr (w : World) : Below w.heap.size w w.drew := ⟨rfl, rfl, rfl, Nat.le_refl _, fun _ _ => rfl⟩
theorem numOf_ok {s : ByteArray} {n : Int} (h : Lib.atoiAll (dig s).data.toList = .ok n) : numOf s = if Lib.itoa n = (dig s).data.toList then some n else none := by unfold numOf; rw [h]
theorem numOf_no {s : ByteArray} (h : ∀ n, Lib.atoiAll (dig s).data.toList ≠ .ok n) : numOf s = none := by
  unfold numOf
  split
  · rename_i n hn; exact absurd hn (h n)
  · rfl
theorem itoa_ne {n : Int} {d : ByteArray} : ((⟨(Lib.itoa n).toArray⟩ : ByteArray).toList != d.toList) = !decide (Lib.itoa n = d.data.toList) := by
  rw [Lib.toList_data, Lib.toList_data]
  by_cases h : Lib.itoa n = d.data.toList
  · simp [h]
  · simp [h]
theorem put1 {T : Array Value} {D : List Deferred} {n : Nat} {v : Value} : (⟨T, D⟩ : Act).put (some n) v = ⟨T.setIfInBounds n v, D⟩ := rfl
theorem put7 {Q : Exit → Act → World → Prop} {T : Array Value} {D : List Deferred} {w : World} {d1 d2 d3 d4 d5 d6 d7 : Option Nat} {v1 v2 v3 v4 v5 v6 v7 : Value} {n1 n2 n3 n4 n5 n6 n7 : Nat} (h1 : d1 = some n1) (h2 : d2 = some n2) (h3 : d3 = some n3) (h4 : d4 = some n4) (h5 : d5 = some n5) (h6 : d6 = some n6) (h7 : d7 = some n7)
    (h : Q .normal ⟨((((((T.setIfInBounds n1 v1).setIfInBounds n2 v2).setIfInBounds n3 v3).setIfInBounds n4 v4).setIfInBounds n5 v5).setIfInBounds n6 v6).setIfInBounds n7 v7, D⟩ w) : Q .normal ((((((((⟨T, D⟩ : Act).put d1 v1).put d2 v2).put d3 v3).put d4 v4).put d5 v5).put d6 v6).put d7 v7) w := by
  subst h1 h2 h3 h4 h5 h6 h7
  simp only [put1]
  exact h
set_option maxHeartbeats 40000000 in
set_option maxRecDepth 1000000 in
theorem told_any (a0 : ByteArray) (w : World) (hLd : LaidW w) (hs : a0.size ≤ 1048576) : Calls Tryd.prog 36 #[.string a0] w (ToldPost a0 w) := by
  have hmm := @run_makeMap Tryd.prog
  have HLd := Lib.hid hLd
  clear hLd
  by_cases h0 : a0.toList = [45]
  · have g0 : (a0.toList == [45]) = true := by rw [h0]; rfl
    have HT := Lib.hid (show toldOf a0 = ([], 0, true) by unfold toldOf; rw [if_pos h0])
    clear h0
    go_enter Tryd.func36, Tryd.ntmps36
    go_wp2_with fail
    go_ret3
    exact ⟨_, by rw [HT.out]; rfl, by rw [HT.out]; exact row_made w _ (Nat.le_refl _), below_a _⟩
  · have g0 : (a0.toList == [45]) = false := by simpa using h0
    have HT := Lib.hid (show toldOf a0 = (match tloop (pieces a0) ⟨[], 0, []⟩ with | none => ([], 0, false) | some st => (st.out, st.made, true)) by unfold toldOf; rw [if_neg h0])
    have hpl := pieces_length a0
    have HPL := Lib.hid hpl
    have hsz := Lib.countB_le ⟨#[32]⟩ (by decide) a0.size a0 (Nat.le_refl _)
    have hlen : (pieces a0).length ≤ 1048577 := by omega
    clear h0 hpl
    go_enter Tryd.func36, Tryd.ntmps36
    go_wp2_with fail
    have h2 := below_a (w := w.alloc (.cells #[] 50)) (.map #[] 0)
    have hld := (HLd.out.below (below_a (.cells #[] 50))).below h2
    refine (split_any a0 _ hld hs).mono ?_
    rintro e w' ⟨rfl, rfl⟩
    rw [← HPL.out]
    have HS := Lib.hid (told_start w (pieces a0))
    clear h2 hld hsz
    have hws := Lib.hid (fun x (hx : x ∈ pieces a0) => Nat.le_trans (pieces_size hx) hs)
    generalize pieces a0 = ws at *
    generalize ((w.alloc (.cells #[] 50)).alloc (.map #[] 0)).alloc (.cells (ws.map Value.string).toArray 9) = W3 at *
    go_wp2_with fail
    go_loopw [5, 6, 22] (fun v5 v6 v22 wr => TRel w (w.heap.size + 1) (w.heap.size + 2) ws v5 v6 v22 wr) (fun _ _ v22 _ => ws.length - (intOf v22).toNat)
    case atStart => exact ⟨0, ⟨[], 0, []⟩, 0, Nat.zero_le _, rfl, rfl, rfl, Nat.zero_le _, Int.le_refl _, Int.le_refl _, Nat.le_refl _, HS.out⟩
    case round =>
      clear HS
      obtain ⟨k, st, mk, hk, rfl, rfl, hT, hl6, hm0, hm1, hmk, hI⟩ := hrel
      obtain ⟨vo, rfl⟩ : ∃ vo : Value, vo = u5 := ⟨_, rfl⟩
      obtain ⟨Ao, co, rfl⟩ := Kd.R_slice hI.row
      have HTl := Lib.hid hT
      have HI := Lib.hid hI
      clear hT
      by_cases hlt : k < ws.length
      · have hc := words_at hI.words hlt
        clear hI
        have HD := Lib.hid (tloop_drop hlt st)
        have hss := hws.out _ (List.getElem_mem hlt)
        generalize ws[k] = s at *
        by_cases hs0 : s.size = 0
        · have he : s.toList.isEmpty = true := by rw [empty_size]; simpa using hs0
          have HF := Lib.hid (show toldOf a0 = ([], 0, false) by rw [HT.out, HTl.out, HD.out]; unfold tstep; rw [if_pos hs0])
          clear hs0
          go_wp2_with fail
          go_ret3
          exact told_no HF.out HI.out.below
        · have he : s.toList.isEmpty = false := by rw [empty_size]; simpa using hs0
          have b1 : 1 ≤ s.size := by omega
          have b2 : (1 : Int) ≤ (s.size : Int) := by omega
          have HS0 := Lib.hid hs0
          clear hs0
          go_wp2_with fail
          have hba := below_a (w := wr) (.cells #[.string (s.extract 0 1), .int .i64 0] 50)
          have hE := heap_alloc_new wr (.cells #[.string (s.extract 0 1), .int .i64 0] 50)
          have hld := HLd.out.below (HI.out.below.trans (hba.mono HI.out.below.size))
          refine (atoi_any (dig s) _ hld (by unfold dig; rw [ByteArray.size_extract]; omega)).mono ?_
          rintro e wA ⟨hbA, h⟩
          have hBA := hba.trans (hbA.mono hba.size)
          have hEA := (hbA.block _ (blk_lt hE)).trans hE
          have hldA := hld.below hbA
          rcases h with ⟨n, hok, rfl⟩ | ⟨m, te, pe, hno, rfl⟩
          · have hw := Lib.atoiAll_bounds hok
            have hnw : (Lit.int .i64 n).wf = true := by
              have e1 : IntKind.i64.min = -9223372036854775808 := rfl
              have e2 : IntKind.i64.max = 9223372036854775807 := rfl
              simpa [Lit.wf, e1, e2] using hw
            have HN := Lib.hid (numOf_ok hok)
            clear hok
            have HBA := Lib.hid hBA
            have HEA := Lib.hid hEA
            have hnq : ∀ (W : World) (n' : Nat), (binOp .neq 68 .nilIface .nilIface).run Tryd.prog (W.drewN n') = .ok (.bool false) (W.drewN n') := fun _ _ => rfl
            clear hba hE hld hbA hBA hEA
            by_cases hit : Lib.itoa n = (dig s).data.toList
            · have HQ := Lib.hid (fun (b : ByteArray) (hb : Hid (b.toList = Lib.itoa n)) => itoa_eq (s := s) hb hit)
              by_cases h600 : st.out.length = 600
              · have hl : ((st.out.length : Int) == 600) = true := by simp [h600]
                have HF := Lib.hid (show toldOf a0 = ([], 0, false) by rw [HT.out, HTl.out, HD.out]; unfold tstep; rw [if_neg HS0.out, HN.out, if_pos hit]; simp only []; rw [if_pos h600])
                clear hit h600
                go_wp2_with fail
                first | go_region_with (go_at_call 39; refine (itoa_any n hnw _ (hldA.below (below_dr _))).mono ?_; rintro e wI ⟨bI, hI, rfl, hbI⟩; have hq := HQ.out bI hI) | fail
                clear hq hI HQ
                refine put7 rfl rfl rfl rfl rfl rfl rfl ?_
                simp only [List.setIfInBounds_toArray, List.set_cons_succ, List.set_cons_zero]
                go_wp2_with fail
                go_ret3
                exact told_no HF.out (HI.out.below.trans ((HBA.out.trans (((below_dr _).trans (hbI.mono (Nat.le_refl _))).mono HBA.out.size)).mono HI.out.below.size))
              · have hl : ((st.out.length : Int) == 600) = false := by simpa using (fun h => h600 (by omega))
                have HN' := Lib.hid (show tstep st s = tsign st s n by unfold tstep; rw [if_neg HS0.out, HN.out, if_pos hit]; simp only []; rw [if_neg h600])
                have hl7 : st.out.length + 1 ≤ 600 := by omega
                clear hit h600 HN
                go_wp2_with fail
                first | go_region_with (go_at_call 39; refine (itoa_any n hnw _ (hldA.below (below_dr _))).mono ?_; rintro e wI ⟨bI, hI, rfl, hbI⟩; have hq := HQ.out bI hI) | fail
                clear hq hI HQ
                refine put7 rfl rfl rfl rfl rfl rfl rfl ?_
                simp only [List.setIfInBounds_toArray, List.set_cons_succ, List.set_cons_zero]
                have hEI := ((below_dr _).trans (hbI.mono (Nat.le_refl _))).block _ (blk_lt HEA.out) |>.trans HEA.out
                have hBI : Below wr.heap.size wr wI := HBA.out.trans (((below_dr _).trans (hbI.mono (Nat.le_refl _))).mono HBA.out.size)
                have c0 : wI.cell? ⟨wr.heap.size, 0, none⟩ = some (.string (s.extract 0 1)) := (blk_cell hEI 0).trans rfl
                have c1 : wI.cell? ⟨wr.heap.size, 1, none⟩ = some (.int .i64 0) := (blk_cell hEI 1).trans rfl
                have f0 := blk_frozen hEI 0
                have f1 := blk_frozen hEI 1
                have HE4 := Lib.hid (blk_put (cs' := #[.string (s.extract 0 1), .int .i64 n]) hEI 1 (.int .i64 n) rfl)
                have HB4 := Lib.hid (below_set (j := 1) (v := .int .i64 n) hBI (Nat.le_refl _))
                clear hEI hBI hbI hldA
                go_upto_region 16 with fail
                clear c0 c1 f0 f1
                obtain ⟨W4, hW4⟩ : ∃ W4, W4 = (wI.setCell ⟨wr.heap.size, 1, none⟩ (.int .i64 n)) := ⟨_, rfl⟩
                rw [← hW4] at HE4 HB4 ⊢
                clear hW4
                have hE4 := HE4.out
                have d0 : W4.cell? ⟨wr.heap.size, 0, none⟩ = some (.string (s.extract 0 1)) := (blk_cell hE4 0).trans rfl
                have d1 : W4.cell? ⟨wr.heap.size, 1, none⟩ = some (.int .i64 n) := (blk_cell hE4 1).trans rfl
                have HI4 := Lib.hid (HI.out.on HB4.out)
                have hlk := HI4.out.map.look hnw
                have HFail := Lib.hid (fun (h : tsign st s n = none) => show toldOf a0 = ([], 0, false) by rw [HT.out, HTl.out, HD.out, HN'.out, h])
                have HGo := Lib.hid (fun (st' : Tst) (h : tsign st s n = some st') => show tloop ws ⟨[], 0, []⟩ = tloop (ws.drop (k + 1)) st' by rw [HTl.out, HD.out, HN'.out, h])
                clear hE4
                by_cases h1 : (sgn s).toList = [43] ∧ n = st.made + 1
                · have hb1 : ((s.extract 0 1).toList == [43]) = true := beq_iff_eq.2 h1.1
                  have hb2 : (n == st.made + 1) = true := beq_iff_eq.2 h1.2
                  have HS := Lib.hid (show tsign st s n = some ⟨st.out ++ [⟨sgn s, n⟩], st.made + 1, st.live ++ [n]⟩ by unfold tsign; rw [if_pos h1])
                  have hm4 := HI4.out.map
                  clear h1 hlk
                  go_wp2_with (first | (at_mapUpdate; refine wpList_born rfl _ _ _ rfl rfl hm4 (by omega) n rfl rfl hnw ?_; intro W5 hm5 hg5; have HI5 := Lib.hid (HI4.out.mapped hm5 hg5); have hE5 := blk_grown HE4.out hg5 (fun e => by injection e with e; have := HI.out.map.lt; omega); have e0 : W5.cell? ⟨wr.heap.size, 0, none⟩ = some (.string (s.extract 0 1)) := (blk_cell hE5 0).trans rfl; have e1 : W5.cell? ⟨wr.heap.size, 1, none⟩ = some (.int .i64 n) := (blk_cell hE5 1).trans rfl; clear hE5 hm4 hm5 hg5 d0 d1) | (at_builtin; refine Kd.R_append k50 (w0 := w) w.heap.size rfl _ _ 45 50 (.agg #[(.string ⟨#[]⟩), (.int .i64 0)]) 24 rfl Tryd.underlying45 info50 rfl (by decide) (by omega) (.slice Ao st.out.length co) st.out (⟨s.extract 0 1, n⟩ : S50) [.string (s.extract 0 1), .int .i64 n] (fun _ => True) (fun _ => False) rfl rfl (k50_mkM _ _ _ (⟨s.extract 0 1, n⟩ : S50)) (fun _ hk => hk.elim) (fun _ _ => trivial) HI5.out.row HI5.out.below HI5.out.below.size (by omega) ?_; intro v6 W6 ho6 hb6 hg6 _; have HI6 := Lib.hid (HI5.out.listed HI5.out ho6 hb6 hg6); clear ho6 hb6 hg6))
                  go_roundw
                  case rel => exact ⟨k + 1, (⟨st.out ++ [⟨sgn s, n⟩], st.made + 1, st.live ++ [n]⟩ : Tst), _, hlt, by go_num, rfl, HGo.out _ HS.out, (by simp only [List.length_append, List.length_singleton]; omega), (by dsimp only; omega), (by simp only [List.length_append, List.length_singleton]; omega), (by simp only [List.length_append, List.length_singleton]; omega), HI6.out⟩
                  case measure => simp [intOf]; omega
                · by_cases s43 : (sgn s).toList = [43]
                  · have hb43 : ((s.extract 0 1).toList == [43]) = true := beq_iff_eq.2 s43
                    have hb46 : ((s.extract 0 1).toList == [46]) = false := by rw [show s.extract 0 1 = sgn s from rfl, s43]; rfl
                    have hb45 : ((s.extract 0 1).toList == [45]) = false := by rw [show s.extract 0 1 = sgn s from rfl, s43]; rfl
                    have hb2 : (n == st.made + 1) = false := beq_eq_false_iff_ne.2 (fun e => h1 ⟨s43, e⟩)
                    have HF := Lib.hid (HFail.out (by unfold tsign; rw [if_neg h1, if_neg (fun h => by rw [s43] at h; exact absurd h.1 (by decide)), if_neg (fun h => by rw [s43] at h; exact absurd h.1 (by decide))]))
                    clear s43 h1 hlk
                    go_wp2_with fail
                    go_ret3
                    exact told_no HF.out HI4.out.below
                  · have hb43 : ((s.extract 0 1).toList == [43]) = false := beq_eq_false_iff_ne.2 s43
                    by_cases s46 : (sgn s).toList = [46]
                    · have hb46 : ((s.extract 0 1).toList == [46]) = true := beq_iff_eq.2 s46
                      have hb45 : ((s.extract 0 1).toList == [45]) = false := by rw [show s.extract 0 1 = sgn s from rfl, s46]; rfl
                      by_cases hliv : n ∈ st.live
                      · have hlk1 : (Instr.lookup 48 (.map (some (w.heap.size + 1))) (.int .i64 n) false).run Tryd.prog W4 = .ok (.bool true) W4 := by rw [hlk, decide_eq_true hliv]
                        have HS := Lib.hid (show tsign st s n = some ⟨st.out ++ [⟨sgn s, n⟩], st.made, st.live⟩ by unfold tsign; rw [if_neg h1, if_pos ⟨s46, hliv⟩])
                        clear h1 hlk s43 s46 hliv
                        go_wp2_with (at_builtin; refine Kd.R_append k50 (w0 := w) w.heap.size rfl _ _ 45 50 (.agg #[(.string ⟨#[]⟩), (.int .i64 0)]) 24 rfl Tryd.underlying45 info50 rfl (by decide) (by omega) (.slice Ao st.out.length co) st.out (⟨s.extract 0 1, n⟩ : S50) [.string (s.extract 0 1), .int .i64 n] (fun _ => True) (fun _ => False) rfl rfl (k50_mkM _ _ _ (⟨s.extract 0 1, n⟩ : S50)) (fun _ hk => hk.elim) (fun _ _ => trivial) HI4.out.row HI4.out.below HI4.out.below.size (by omega) ?_; intro v6 W6 ho6 hb6 hg6 _; have HI6 := Lib.hid (HI4.out.listed HI4.out ho6 hb6 hg6); clear ho6 hb6 hg6)
                        go_roundw
                        case rel => exact ⟨k + 1, (⟨st.out ++ [⟨sgn s, n⟩], st.made, st.live⟩ : Tst), _, hlt, by go_num, rfl, HGo.out _ HS.out, (by simp only [List.length_append, List.length_singleton]; omega), (by dsimp only; omega), (by simp only [List.length_append, List.length_singleton]; omega), (by simp only [List.length_append, List.length_singleton]; omega), HI6.out⟩
                        case measure => simp [intOf]; omega
                      · have hlk1 : (Instr.lookup 48 (.map (some (w.heap.size + 1))) (.int .i64 n) false).run Tryd.prog W4 = .ok (.bool false) W4 := by rw [hlk, decide_eq_false hliv]
                        have HF := Lib.hid (HFail.out (by unfold tsign; rw [if_neg h1, if_neg (fun h => hliv h.2), if_neg (fun h => hliv h.2)]))
                        clear h1 hlk s43 s46 hliv
                        go_wp2_with fail
                        go_ret3
                        exact told_no HF.out HI4.out.below
                    · have hb46 : ((s.extract 0 1).toList == [46]) = false := beq_eq_false_iff_ne.2 s46
                      by_cases s45 : (sgn s).toList = [45]
                      · have hb45 : ((s.extract 0 1).toList == [45]) = true := beq_iff_eq.2 s45
                        by_cases hliv : n ∈ st.live
                        · have hlk1 : (Instr.lookup 48 (.map (some (w.heap.size + 1))) (.int .i64 n) false).run Tryd.prog W4 = .ok (.bool true) W4 := by rw [hlk, decide_eq_true hliv]
                          have HS := Lib.hid (show tsign st s n = some ⟨st.out ++ [⟨sgn s, n⟩], st.made, st.live.filter (fun y => y != n)⟩ by unfold tsign; rw [if_neg h1, if_neg (fun h => s46 h.1), if_pos ⟨s45, hliv⟩])
                          have hm4 := HI4.out.map
                          clear h1 hlk s43 s46 s45 hliv
                          go_wp2_with (first | (at_delete; refine wpList_dead rfl _ _ rfl rfl hm4 n rfl hnw ?_; intro W5 hm5 hg5; have HI5 := Lib.hid (HI4.out.mapped hm5 hg5); have hE5 := blk_grown HE4.out hg5 (fun e => by injection e with e; have := HI.out.map.lt; omega); have e0 : W5.cell? ⟨wr.heap.size, 0, none⟩ = some (.string (s.extract 0 1)) := (blk_cell hE5 0).trans rfl; have e1 : W5.cell? ⟨wr.heap.size, 1, none⟩ = some (.int .i64 n) := (blk_cell hE5 1).trans rfl; clear hE5 hm4 hm5 hg5 d0 d1) | (at_builtin; refine Kd.R_append k50 (w0 := w) w.heap.size rfl _ _ 45 50 (.agg #[(.string ⟨#[]⟩), (.int .i64 0)]) 24 rfl Tryd.underlying45 info50 rfl (by decide) (by omega) (.slice Ao st.out.length co) st.out (⟨s.extract 0 1, n⟩ : S50) [.string (s.extract 0 1), .int .i64 n] (fun _ => True) (fun _ => False) rfl rfl (k50_mkM _ _ _ (⟨s.extract 0 1, n⟩ : S50)) (fun _ hk => hk.elim) (fun _ _ => trivial) HI5.out.row HI5.out.below HI5.out.below.size (by omega) ?_; intro v6 W6 ho6 hb6 hg6 _; have HI6 := Lib.hid (HI5.out.listed HI5.out ho6 hb6 hg6); clear ho6 hb6 hg6))
                          go_roundw
                          case rel => exact ⟨k + 1, (⟨st.out ++ [⟨sgn s, n⟩], st.made, st.live.filter (fun y => y != n)⟩ : Tst), _, hlt, by go_num, rfl, HGo.out _ HS.out, (by simp only [List.length_append, List.length_singleton]; omega), (by dsimp only; omega), (by simp only [List.length_append, List.length_singleton]; omega), (by simp only [List.length_append, List.length_singleton]; omega), HI6.out⟩
                          case measure => simp [intOf]; omega
                        · have hlk1 : (Instr.lookup 48 (.map (some (w.heap.size + 1))) (.int .i64 n) false).run Tryd.prog W4 = .ok (.bool false) W4 := by rw [hlk, decide_eq_false hliv]
                          have HF := Lib.hid (HFail.out (by unfold tsign; rw [if_neg h1, if_neg (fun h => hliv h.2), if_neg (fun h => hliv h.2)]))
                          clear h1 hlk s43 s46 s45 hliv
                          go_wp2_with fail
                          go_ret3
                          exact told_no HF.out HI4.out.below
                      · have hb45 : ((s.extract 0 1).toList == [45]) = false := beq_eq_false_iff_ne.2 s45
                        have HF := Lib.hid (HFail.out (by unfold tsign; rw [if_neg h1, if_neg (fun h => s46 h.1), if_neg (fun h => s45 h.1)]))
                        clear h1 hlk s43 s46 s45
                        go_wp2_with fail
                        go_ret3
                        exact told_no HF.out HI4.out.below
            · have HQ := Lib.hid (fun (b : ByteArray) (hb : Hid (b.toList = Lib.itoa n)) => itoa_neq (s := s) hb hit)
              have HF := Lib.hid (show toldOf a0 = ([], 0, false) by rw [HT.out, HTl.out, HD.out]; unfold tstep; rw [if_neg HS0.out, HN.out, if_neg hit])
              clear hit
              go_wp2_with fail
              first | go_region_with (go_at_call 39; refine (itoa_any n hnw _ (hldA.below (below_dr _))).mono ?_; rintro e wI ⟨bI, hI, rfl, hbI⟩; have hq := HQ.out bI hI) | fail
              go_wp2_with fail
              go_ret3
              exact told_no HF.out (HI.out.below.trans ((HBA.out.trans (((below_dr _).trans (hbI.mono (Nat.le_refl _))).mono HBA.out.size)).mono HI.out.below.size))
          · have HF := Lib.hid (show toldOf a0 = ([], 0, false) by rw [HT.out, HTl.out, HD.out]; unfold tstep; rw [if_neg HS0.out, numOf_no hno])
            have HBA := Lib.hid hBA
            have hnq : ∀ (W : World) (n' : Nat), (binOp .neq 68 (.iface te pe) .nilIface).run Tryd.prog (W.drewN n') = .ok (.bool true) (W.drewN n') := fun _ _ => rfl
            clear hba hE hld hbA hBA hEA hldA hno
            go_wp2_with fail
            go_quiet (fail)
            go_wp2_with fail
            go_ret3
            exact told_no HF.out (pw_below_drewN (HI.out.below.trans (HBA.out.mono HI.out.below.size)) _)
      · have hkn : k = ws.length := by omega
        subst hkn
        clear hI
        have HTT := Lib.hid (show toldOf a0 = (st.out, st.made, true) by rw [HT.out, HTl.out, tloop_end rfl])
        go_wp2_with fail
        go_ret3
        exact ⟨_, by rw [HTT.out]; rfl, by rw [HTT.out]; exact HI.out.row, HI.out.below⟩
theorem impl_told.calls (a0 : ByteArray) (r1 : List S50) (r2 : Int) (r3 : Bool) (w : World) (hLd : LaidW w) (h : impl_told.f a0 = some (r1, r2, r3)) : Calls Tryd.prog 36 #[.string a0] w fun e w' => ∃ v0_ : Value, e = .returned (.tuple #[v0_, .int .i64 r2, .bool r3]) ∧ Kd.R k50 50 w' w.heap.size (fun _ => True) v0_ r1 ∧ Below w.heap.size w w' := by
  unfold impl_told.f at h
  split at h
  · rename_i hs
    injection h with h
    refine (told_any a0 w hLd hs).mono ?_
    rintro e w' ⟨v, rfl, hr, hb⟩
    rw [h] at hr ⊢
    exact ⟨v, rfl, hr, hb⟩
  · cases h
end Go.Proofs.YtmhagppajcidcaaDoor.Pr
