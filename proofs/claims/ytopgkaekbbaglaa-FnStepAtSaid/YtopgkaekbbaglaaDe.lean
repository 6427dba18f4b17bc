/- All steps of a program, and the one that begins at a byte: the program's functions. -/
import Derived.Test.YtopgkaekbbaglaaDd
import Derived.Test.YtopgkaekbbaglaaSm
namespace Go.Proofs.Ytopgkaekbbaglaa
open Go.RowKit Pl

def AllPost (p : ByteArray) (w : World) (e : Ending) (w' : World) : Prop :=
  ∃ v ps, e = .returned v ∧ Below w.heap.size w w' ∧ Own w' (fun j => w.heap.size ≤ j) 49 v ps ∧ Nodes w' (fun j => w.heap.size ≤ j) (Flat p) ps
theorem flat_none {p : ByteArray} (h : IParse p = none) : Flat p = [] := by unfold Flat; rw [h]
theorem flat_some {p : ByteArray} {i : Inf} {b0 b1 : T} (h : IParse p = some (i, b0, b1)) : Flat p = (T.cons i b0 b1 .nil).flat := by unfold Flat; rw [h]
theorem next_cells (w : World) (o o' : Obj) : ((w.alloc o).alloc o').heap[w.heap.size + 1]? = some o' := by
  have h := heap_alloc_new (w.alloc o) o'
  simpa using h
set_option maxHeartbeats 1600000 in
set_option maxRecDepth 1000000 in
theorem iall_any (p : ByteArray) (w : World) (hp : p.size ≤ 1048576) : Calls Try.prog 47 #[.string p] w (AllPost p w) := by
  have hmf : ∀ (fn : Fn) (first cap : Array Value) (w : World), (Instr.makeFunc fn first cap).run Try.prog w = .ok (.func fn first cap) w := fun _ _ _ _ => rfl
  go_enter Try.func47, Try.ntmps47
  go_wp2_with fail
  generalize hW : ((w.alloc (.cells #[] 49)).alloc (.cells #[.slice (some ⟨w.heap.size, 0, none⟩) 0 0] 56)) = W
  have hC : W.heap[w.heap.size + 1]? = some (.cells #[.slice (some ⟨w.heap.size, 0, none⟩) 0 0] 56 (0, 0)) := by rw [← hW]; exact next_cells w _ _
  have hO : Own W (fun j => w.heap.size ≤ j) 49 (.slice (some ⟨w.heap.size, 0, none⟩) 0 0) [] := by
    rw [← hW]
    exact ⟨World.ownsRow.alloc (World.ownsRow_made w #[] 0 (Nat.zero_le _) (by simp [maxLen]) rfl) _, fun k hk => by simp [Value.ownBlock] at hk; omega⟩
  have hs : W.heap.size = w.heap.size + 2 := by rw [← hW]; simp
  have hB : Below w.heap.size w W := by
    rw [← hW]
    exact below_of (World.grownBy.trans (World.grownBy_alloc w _ none) (World.grownBy_alloc _ _ none))
  have XC := Lib.hid hC
  have XO := Lib.hid hO
  have XS := Lib.hid hs
  have XB := Lib.hid hB
  clear hW hC hO hs hB
  refine (parse_any p W hp).mono ?_
  rintro e w1 ⟨hb1, h⟩
  have hC1 : w1.heap[w.heap.size + 1]? = some (.cells #[.slice (some ⟨w.heap.size, 0, none⟩) 0 0] 56 (0, 0)) := (hb1.block _ (by rw [XS.out]; omega)).trans XC.out
  have hB1 := XB.out.trans (hb1.mono XB.out.size)
  rcases h with ⟨hn, rfl⟩ | ⟨i, b0, b1, g, hn, rfl, hP⟩
  · have hc := cell_of_one hC1
    have X1 := Lib.hid hn
    have X2 := Lib.hid hb1
    have X3 := Lib.hid hB1
    clear hn hb1 hB1 hC1
    go_wp2_with fail
    go_ret
    exact ⟨_, [], rfl, X3.out, XO.out.keep (fun j _ hj => X2.out.block j hj), by rw [flat_none X1.out]; rfl⟩
  · have hP' := hP.bound
    have hO1 := XO.out.keep (fun j _ hj => hb1.block j hj)
    have hw := walk_any _ i b0 b1 (Nat.le_refl _) w1 _ _ g (w.heap.size + 1) _ [] hP' (fun j hj => by
      have := XS.out
      refine ⟨hj.2, by omega, fun e => ?_⟩
      have e' : j = w.heap.size := by simpa [Value.ownBlock] using e
      omega) hC1 (by simp [Value.ownBlock]) hO1 (by
        have h1 := flat_count (T.cons i b0 b1 .nil)
        have h2 := parse_count hn
        simp only [List.length_nil]
        omega)
    have HWk := Lib.hid hw
    have X1 := Lib.hid hn
    have X3 := Lib.hid hB1
    have X4 := Lib.hid hb1.size
    clear hn hb1 hB1 hC1 hP hP' hO1 hw
    go_wp2_with fail
    refine HWk.out.mono ?_
    rintro e w2 ⟨rfl, v1, ps, h1, h2, h3, h4, h5⟩
    obtain ⟨A, n, c, rfl⟩ := h3.form'
    have hc := cell_of_one h1
    have Y3 := Lib.hid h3
    have Y4 := Lib.hid h4
    have Y5 := Lib.hid h5
    clear h1 h2 h3 h4 h5
    go_wp2_with fail
    go_ret
    have hS := XS.out
    have h4' := X4.out
    refine ⟨_, ps, rfl, ?_, by simpa using Y3.out.mono (fun k hk => by
      rcases hk with hk | hk
      · have e' : w.heap.size = k := by simpa [Value.ownBlock] using hk
        omega
      · omega), by rw [flat_some X1.out]; exact Y4.out.mono (fun k hk => by omega)⟩
    refine X3.out.trans ⟨Y5.out.os, Y5.out.tape, Y5.out.output, Y5.out.size, fun k hk => Y5.out.block k (by omega) (fun hs => ?_)⟩
    rcases hs with hs | hs
    · omega
    · have e' : w.heap.size = k := by simpa [Value.ownBlock] using hs
      omega

def FindPost (p : ByteArray) (a : Int) (w : World) (e : Ending) (w' : World) : Prop := Below w.heap.size w w' ∧
  ((FindAt p a = none ∧ e = .returned (.pointer none)) ∨
   ∃ i g A n c, FindAt p a = some i ∧ e = .returned (.pointer (some ⟨g, 0, none⟩)) ∧ w'.heap[g]? = some (.cells #[.int .u8 i.kind.toNat, .int .i64 i.at_, .int .i64 i.end_, .string i.vars, .string i.scope, .slice A n c] 60 (0, 0)))
theorem find_step {L : List Inf} {k : Nat} (hk : k < L.length) {a : Int} (h : ((L[k].at_ : Int) == a) = false) : (L.drop k).find? (fun i => (i.at_ : Int) == a) = (L.drop (k + 1)).find? (fun i => (i.at_ : Int) == a) := by
  rw [List.drop_eq_getElem_cons hk, List.find?_cons, h]
theorem find_hit {L : List Inf} {k : Nat} (hk : k < L.length) {a : Int} (h : ((L[k].at_ : Int) == a) = true) : (L.drop k).find? (fun i => (i.at_ : Int) == a) = some L[k] := by
  rw [List.drop_eq_getElem_cons hk, List.find?_cons, h]
set_option maxHeartbeats 1600000 in
set_option maxRecDepth 1000000 in
theorem ifind_any (p : ByteArray) (a : Int) (w : World) (hp : p.size ≤ 1048576) : Calls Try.prog 49 #[.string p, .int .i64 a] w (FindPost p a w) := by
  go_enter Try.func49, Try.ntmps49
  go_wp2_with fail
  refine (iall_any p w hp).mono ?_
  rintro e w1 ⟨v, ps, rfl, hb, hO, hN⟩
  obtain ⟨A, c, rfl⟩ := hO.form
  have hlen := hN.length
  have hle := flat_le p
  have HF := Lib.hid (show FindAt p a = (Flat p).find? (fun i => (i.at_ : Int) == a) from rfl)
  have HO := Lib.hid hO
  have HN := Lib.hid hN
  have HB := Lib.hid hb
  rw [hlen]
  rw [hlen] at HO
  have HL := Lib.hid hlen
  clear hO hN hb hlen
  generalize Flat p = L at *
  go_wp2_with fail
  go_loop [10] (fun i' => ∃ k : Nat, k ≤ L.length ∧ i' = .int .i64 k ∧ Hid (FindAt p a = (L.drop k).find? (fun i => (i.at_ : Int) == a))) (fun i' => L.length - (intOf i').toNat)
  case atStart => exact ⟨0, Nat.zero_le _, rfl, Lib.hid (by rw [HF.out]; rfl)⟩
  case round =>
    obtain ⟨k, hk, rfl, HK⟩ := hrel
    by_cases hlt : k < L.length
    · obtain ⟨g, A', n', c', hps, _, hh⟩ := HN.out.at hlt
      obtain ⟨gb, rfl, hc⟩ := HO.out.at HL.out.symm hlt
      rw [hps] at hc
      have hk1 : w1.cell? ⟨g, 1, none⟩ = some (.int .i64 (L[k]).at_) := by simp [World.cell?, hh]
      have HH := Lib.hid hh
      clear hh hps
      by_cases hq : (((L[k]).at_ : Int) == a) = true
      · have HQ := Lib.hid (find_hit hlt hq)
        go_wp2_with fail
        go_ret
        exact ⟨HB.out, .inr ⟨L[k], g, A', n', c', by rw [HK.out]; exact HQ.out, rfl, HH.out⟩⟩
      · have hq' : (((L[k]).at_ : Int) == a) = false := by simpa using hq
        have HQ := Lib.hid (find_step hlt hq')
        clear hq
        go_wp2_with fail
        go_round
        case rel => exact ⟨k + 1, hlt, by go_num, Lib.hid (by rw [HK.out]; exact HQ.out)⟩
        case measure => simp [intOf]; omega
    · have hkn : k = L.length := by omega
      subst hkn
      go_wp2_with fail
      go_ret
      exact ⟨HB.out, .inl ⟨by rw [HK.out, List.drop_length]; rfl, rfl⟩⟩
end Go.Proofs.Ytopgkaekbbaglaa
