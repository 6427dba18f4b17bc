/- Ci: texts of this proof, joined. -/
import Derived.Test.YtojhdfdhfajjjaaDoorCa
import Derived.Test.YtojhdfdhfajjjaaDoorCb
import Derived.BigCall
import Derived.BigRegion
namespace Go.Proofs.YtojhdfdhfajjjaaDoor
set_option linter.unusedVariables false
set_option linter.unusedSimpArgs false
open Go.RowKit Pl
structure RunS where
  ch : ByteArray
  at_ : Nat
  V : Nat → Nat
  made : Nat
  ev : ByteArray
  exit : Int
  wh : Int
  stuck : Bool
  asked : ByteArray
  vis : Value
def cellsOf (s : RunS) : Array Value := #[.string s.ch, .int .i64 s.at_, .int .i64 (s.V 0), .int .i64 (s.V 1), .int .i64 (s.V 2), .int .i64 (s.V 3), .int .i64 (s.V 4), .int .i64 (s.V 5), .int .i64 s.made, .string s.ev, .int .i64 s.exit, .int .i64 s.wh, .bool s.stuck, .string s.asked, s.vis]
def Run (w : World) (b : Nat) (s : RunS) : Prop := w.heap[b]? = some (.cells (cellsOf s) 69 (0, 0))
section
variable {w w' : World} {b : Nat} {s : RunS}
theorem Run.c0 (h : Run w b s) : w.cell? ⟨b, 0, none⟩ = some (.string s.ch) := by simp [World.cell?, show w.heap[b]? = _ from h, cellsOf]
theorem Run.c1 (h : Run w b s) : w.cell? ⟨b, 1, none⟩ = some (.int .i64 s.at_) := by simp [World.cell?, show w.heap[b]? = _ from h, cellsOf]
theorem Run.cV (h : Run w b s) (k : Nat) (hk : k < 6) : w.cell? ⟨b, 2 + k, none⟩ = some (.int .i64 (s.V k)) := by
  rcases (show k = 0 ∨ k = 1 ∨ k = 2 ∨ k = 3 ∨ k = 4 ∨ k = 5 by omega) with rfl | rfl | rfl | rfl | rfl | rfl <;> simp [World.cell?, show w.heap[b]? = _ from h, cellsOf]
theorem Run.c8 (h : Run w b s) : w.cell? ⟨b, 8, none⟩ = some (.int .i64 s.made) := by simp [World.cell?, show w.heap[b]? = _ from h, cellsOf]
theorem Run.c9 (h : Run w b s) : w.cell? ⟨b, 9, none⟩ = some (.string s.ev) := by simp [World.cell?, show w.heap[b]? = _ from h, cellsOf]
theorem Run.c10 (h : Run w b s) : w.cell? ⟨b, 10, none⟩ = some (.int .i64 s.exit) := by simp [World.cell?, show w.heap[b]? = _ from h, cellsOf]
theorem Run.c11 (h : Run w b s) : w.cell? ⟨b, 11, none⟩ = some (.int .i64 s.wh) := by simp [World.cell?, show w.heap[b]? = _ from h, cellsOf]
theorem Run.c12 (h : Run w b s) : w.cell? ⟨b, 12, none⟩ = some (.bool s.stuck) := by simp [World.cell?, show w.heap[b]? = _ from h, cellsOf]
theorem Run.c13 (h : Run w b s) : w.cell? ⟨b, 13, none⟩ = some (.string s.asked) := by simp [World.cell?, show w.heap[b]? = _ from h, cellsOf]
theorem Run.c14 (h : Run w b s) : w.cell? ⟨b, 14, none⟩ = some s.vis := by simp [World.cell?, show w.heap[b]? = _ from h, cellsOf]
theorem Run.fz (h : Run w b s) (i : Nat) : w.frozen? ⟨b, i, none⟩ = false := by simp [World.frozen?, show w.heap[b]? = _ from h]
theorem Run.lt (h : Run w b s) : b < w.heap.size := (Array.getElem?_eq_some_iff.1 h).1
theorem Run.grown (h : Run w b s) {r : Option Nat} (hg : w.grownBy w' r) (hr : some b ≠ r) : Run w' b s := (hg.block b h.lt hr).trans h
theorem Run.heap (h : Run w b s) (e : w'.heap = w.heap) : Run w' b s := by unfold Run; rw [e]; exact h
theorem Run.setAt (h : Run w b s) (n : Nat) : Run (w.setCell ⟨b, 1, none⟩ (.int .i64 n)) b { s with at_ := n } := by
  have h' : w.heap[b]? = _ := h
  simp [Run, World.setCell, Array.getElem?_modify, h', cellsOf]
theorem Run.setV (h : Run w b s) (k : Nat) (hk : k < 6) (n : Nat) : Run (w.setCell ⟨b, 2 + k, none⟩ (.int .i64 n)) b { s with V := fun j => if j = k then n else s.V j } := by
  have h' : w.heap[b]? = _ := h
  rcases (show k = 0 ∨ k = 1 ∨ k = 2 ∨ k = 3 ∨ k = 4 ∨ k = 5 by omega) with rfl | rfl | rfl | rfl | rfl | rfl <;> simp [Run, World.setCell, Array.getElem?_modify, h', cellsOf]
theorem Run.setMade (h : Run w b s) (n : Nat) : Run (w.setCell ⟨b, 8, none⟩ (.int .i64 n)) b { s with made := n } := by
  have h' : w.heap[b]? = _ := h
  simp [Run, World.setCell, Array.getElem?_modify, h', cellsOf]
theorem Run.setEv (h : Run w b s) (e : ByteArray) : Run (w.setCell ⟨b, 9, none⟩ (.string e)) b { s with ev := e } := by
  have h' : w.heap[b]? = _ := h
  simp [Run, World.setCell, Array.getElem?_modify, h', cellsOf]
theorem Run.setExit (h : Run w b s) (e : Int) : Run (w.setCell ⟨b, 10, none⟩ (.int .i64 e)) b { s with exit := e } := by
  have h' : w.heap[b]? = _ := h
  simp [Run, World.setCell, Array.getElem?_modify, h', cellsOf]
theorem Run.setWh (h : Run w b s) (e : Int) : Run (w.setCell ⟨b, 11, none⟩ (.int .i64 e)) b { s with wh := e } := by
  have h' : w.heap[b]? = _ := h
  simp [Run, World.setCell, Array.getElem?_modify, h', cellsOf]
theorem Run.setStuck (h : Run w b s) (e : Bool) : Run (w.setCell ⟨b, 12, none⟩ (.bool e)) b { s with stuck := e } := by
  have h' : w.heap[b]? = _ := h
  simp [Run, World.setCell, Array.getElem?_modify, h', cellsOf]
theorem Run.setAsked (h : Run w b s) (e : ByteArray) : Run (w.setCell ⟨b, 13, none⟩ (.string e)) b { s with asked := e } := by
  have h' : w.heap[b]? = _ := h
  simp [Run, World.setCell, Array.getElem?_modify, h', cellsOf]
theorem Run.setVis (h : Run w b s) (e : Value) : Run (w.setCell ⟨b, 14, none⟩ e) b { s with vis := e } := by
  have h' : w.heap[b]? = _ := h
  simp [Run, World.setCell, Array.getElem?_modify, h', cellsOf]
end
def RunS.ends (s : RunS) : Bool := s.stuck || s.exit != 0
set_option maxHeartbeats 400000 in
theorem ends_any (w : World) (b : Nat) (s : RunS) (h : Run w b s) : Calls Tryd.prog 49 #[.pointer (some ⟨b, 0, none⟩)] w fun e w' => e = .returned (.bool s.ends) ∧ w' = w := by
  have c10 := h.c10
  have c12 := h.c12
  unfold RunS.ends
  clear h
  generalize s.exit = x at *
  generalize s.stuck = st at *
  cases st
  · go_enter Tryd.func49, Tryd.ntmps49
    go_wp2_with fail
    go_ret
    exact ⟨rfl, rfl⟩
  · go_enter Tryd.func49, Tryd.ntmps49
    go_wp2_with fail
    go_ret
    exact ⟨rfl, rfl⟩
def DecRel (w : World) (i o : Value) (wr : World) : Prop := ∃ (m : Nat) (t : ByteArray), i = .int .i64 m ∧ o = .string t ∧ ((t.size = 0 ∧ m ≤ 9999) ∨ (t.size = 1 ∧ m ≤ 999) ∨ (t.size = 2 ∧ m ≤ 99) ∨ (t.size = 3 ∧ m ≤ 9)) ∧ w.grownBy wr none
set_option maxHeartbeats 800000 in
theorem dec_any (w : World) (n : Nat) (hn : n ≤ 9999) : Calls Tryd.prog 18 #[.int .i64 n] w fun e w' => ∃ t : ByteArray, t.size ≤ 4 ∧ e = .returned (.string t) ∧ w.grownBy w' none := by
  have hcv := conv_byte
  have hsz := fun x => strOfNums_size [x]
  go_enter Tryd.func18, Tryd.ntmps18
  go_wp2_with fail
  go_loopw [0, 3] (fun i o wr => DecRel w i o wr) (fun i _ _ => (intOf i).toNat)
  case atStart => exact ⟨n, ⟨#[]⟩, rfl, rfl, .inl ⟨rfl, hn⟩, World.grownBy.refl w none⟩
  case round =>
    obtain ⟨m, t, rfl, rfl, hm, hg⟩ := hrel
    have hm9 : m ≤ 9999 := by omega
    have ht3 : t.size ≤ 3 := by omega
    have HM := Lib.hid hm
    have HG := Lib.hid (fun o => World.grownBy.trans hg (World.grownBy_alloc wr o none))
    clear hm hg
    by_cases hlt : 9 < m
    · have hd : decide ((9 : Int) < (m : Int)) = true := by simp; omega
      go_wp2_with fail
      refine ⟨⟨m / 10, strOfNums [48 + (m : Int) % 10] ++ t, by go_num, rfl, ?_, HG.out _⟩, by simp [intOf]; omega⟩
      have h := HM.out
      have h1 := hsz (48 + (m : Int) % 10)
      rw [ByteArray.size_append, h1]
      simp only [List.length_singleton]
      omega
    · have hd : decide ((9 : Int) < (m : Int)) = false := by simp; omega
      go_wp2_with fail
      go_ret
      refine ⟨_, ?_, rfl, HG.out _⟩
      have h := HM.out
      have h1 := hsz (48 + (m : Int))
      rw [ByteArray.size_append, h1]
      simp only [List.length_singleton]
      omega
theorem heap_grown {w w' w'' : World} {r : Option Nat} (h : w.grownBy w' r) (e : w''.heap = w'.heap) (e1 : w''.os = w'.os) (e2 : w''.tape = w'.tape) (e3 : w''.output = w'.output) : w.grownBy w'' r :=
  ⟨e1.trans h.os, e2.trans h.tape, e3.trans h.output, by rw [e]; exact h.size, fun j hj hr => by rw [e]; exact h.block j hj hr⟩
theorem grown_any {w w' : World} (h : w.grownBy w' none) (r : Option Nat) : w.grownBy w' r := ⟨h.os, h.tape, h.output, h.size, fun j hj _ => h.block j hj (by simp)⟩
set_option maxHeartbeats 1600000 in
set_option maxRecDepth 100000 in
theorem event_any (w : World) (b : Nat) (s : RunS) (k : ByteArray) (n : Nat) (h : Run w b s) (hk : k.size = 1) (hn : n ≤ 9999) (hs : s.ev.size ≤ 1000000) :
    Calls Tryd.prog 65 #[.pointer (some ⟨b, 0, none⟩), .string k, .int .i64 n] w fun e w' => ∃ ev : ByteArray, ev.size ≤ s.ev.size + 6 ∧ e = .returned (.tuple #[]) ∧ Run w' b { s with ev := ev } ∧ w.grownBy w' (some b) := by
  have hk1 : k.size ≤ 1 := by omega
  have c9 := h.c9
  have f9 := h.fz 9
  have H := Lib.hid h
  clear h hk
  generalize hE : s.ev = E at *
  by_cases hb : E.toList.isEmpty = true
  · go_enter Tryd.func65, Tryd.ntmps65
    go_wp2_with fail
    clear hb
    go_region_with (
      (go_at_call 18
       refine Calls.mono (dec_any _ n hn) ?_
       rintro e w2 ⟨t, ht, rfl, hg⟩
       have H2 := Lib.hid ((H.out.heap (by rfl)).grown hg (by simp))
       have HG := Lib.hid ((heap_grown (World.grownBy.refl w (some b)) (by rfl) (by rfl) (by rfl) (by rfl)).trans (grown_any hg (some b)))
       have c9' := H2.out.c9
       have f9' := H2.out.fz 9
       rw [hE] at c9'
       clear hg))
    all_goals
      go_end0
      refine ⟨E ++ k ++ t, by simp only [ByteArray.size_append]; omega, rfl, ?_, World.grownBy.trans HG.out (grown_set _ _ _ _)⟩
      exact H2.out.setEv (E ++ k ++ t)
  · have hb' : E.toList.isEmpty = false := by simpa using hb
    clear hb
    go_enter Tryd.func65, Tryd.ntmps65
    go_wp2_with fail
    have K := Lib.hid (H.out.setEv (E ++ ⟨#[32]⟩))
    have KG := Lib.hid (grown_set w b 9 (.string (E ++ ⟨#[32]⟩)))
    have k9 := K.out.c9
    have kf := K.out.fz 9
    generalize hW : w.setCell ⟨b, 9, none⟩ (.string (E ++ ⟨#[32]⟩)) = W at *
    clear hW c9 f9 hb'
    go_region_with (
      (go_at_call 18
       refine Calls.mono (dec_any _ n hn) ?_
       rintro e w2 ⟨t, ht, rfl, hg⟩
       have H2 := Lib.hid ((K.out.heap (by rfl)).grown hg (by simp))
       have HG := Lib.hid ((heap_grown (World.grownBy.refl W (some b)) (by rfl) (by rfl) (by rfl) (by rfl)).trans (grown_any hg (some b)))
       have c9' := H2.out.c9
       have f9' := H2.out.fz 9
       clear hg))
    all_goals
      have hX : (E ++ ⟨#[32]⟩ ++ k ++ t).size ≤ E.size + 6 := by
        have h1 : (ByteArray.mk #[32]).size = 1 := rfl
        simp only [ByteArray.size_append, h1]; omega
      generalize E ++ ⟨#[32]⟩ ++ k ++ t = X at *
      have HX := H2.out.setEv X
      generalize E ++ ⟨#[32]⟩ = E1 at *
      go_end0
      exact ⟨X, hX, rfl, HX, World.grownBy.trans KG.out (World.grownBy.trans HG.out (grown_set _ _ _ _))⟩
end Go.Proofs.YtojhdfdhfajjjaaDoor
namespace Go.Proofs.YtojhdfdhfajjjaaDoor
set_option linter.unusedVariables false
set_option linter.unusedSimpArgs false
open Go.RowKit Pl
def zeroAt (V : Nat → Nat) (k : Nat) : Nat → Nat := fun j => if j = k then 0 else V j
theorem zeroAt_same {V : Nat → Nat} {k : Nat} (h : V k = 0) : zeroAt V k = V := by
 funext j
 unfold zeroAt
 split
 ·rename_i e; rw [e, h]
 ·rfl
set_option maxHeartbeats 1600000 in
set_option maxRecDepth 100000 in
theorem destroy_any (w : World) (b : Nat) (s : RunS) (k : Nat) (h : Run w b s) (hk : k < 6) (hn : s.V k ≤ 9999) (hs : s.ev.size ≤ 1000000) :
  Calls Tryd.prog 64 #[.pointer (some ⟨b, 0, none⟩), .int .u8 (97 + (k : Int))] w fun e w' => ∃ ev : ByteArray, ev.size ≤ s.ev.size + 6 ∧ e = .returned (.tuple #[]) ∧ Run w' b { s with ev := ev, V := zeroAt s.V k } ∧ w.grownBy w' (some b) := by
 have cv := h.cV k hk
 have H := Lib.hid h
 clear h
 by_cases hz : s.V k = 0
 ·have HZ := Lib.hid (zeroAt_same hz)
  rw [hz] at cv
  clear hz hn
  go_enter Tryd.func64, Tryd.ntmps64
  go_wp2_with fail
  go_end0
  exact ⟨s.ev, by omega, rfl, by rw [HZ.out]; exact H.out, World.grownBy.refl _ _⟩
 ·generalize hV : s.V k = v at *
  have hp0 : 0 < v := by omega
  have hp : decide ((0 : Int) < (v : Int)) = true := by simp; omega
  clear hz
  go_enter Tryd.func64, Tryd.ntmps64
  go_wp2_with fail
  refine (event_any w b s ⟨#[45]⟩ v H.out rfl hn hs).mono ?_
  rintro e w1 ⟨ev, hev, rfl, h1, hg1⟩
  have H1 := Lib.hid h1
  have HG1 := Lib.hid hg1
  have cv1 := h1.cV k hk
  have fv1 := h1.fz (2 + k)
  have HS := Lib.hid (h1.setV k hk 0)
  clear h1 hg1 cv
  go_wp2_with fail
  go_end0
  exact ⟨ev, hev, rfl, HS.out, World.grownBy.trans HG1.out (grown_set _ _ _ _)⟩
def RunS.looked (s : RunS) (k : Nat) (a : Int) : RunS := if s.V k = 0 then { s with exit := 4, wh := a } else s
set_option maxHeartbeats 1600000 in
set_option maxRecDepth 100000 in
theorem value_any (w : World) (b : Nat) (s : RunS) (k : Nat) (a : Int) (h : Run w b s) (hk : k < 6) :
  Calls Tryd.prog 66 #[.pointer (some ⟨b, 0, none⟩), .int .u8 (97 + (k : Int)), .int .i64 a] w fun e w' => e = .returned (.int .i64 (s.V k)) ∧ Run w' b (s.looked k a) ∧ w.grownBy w' (some b) := by
 have cv := h.cV k hk
 have H := Lib.hid h
 by_cases hz : s.V k = 0
 ·have HL := Lib.hid (show s.looked k a = { s with exit := 4, wh := a } by unfold RunS.looked; rw [if_pos hz])
  have f10 := h.fz 10
  have f11 := h.fz 11
  have HS := Lib.hid ((h.setExit 4).setWh a)
  have cv' : ((w.setCell ⟨b, 10, none⟩ (.int .i64 4)).setCell ⟨b, 11, none⟩ (.int .i64 a)).cell? ⟨b, 2 + k, none⟩ = some (.int .i64 0) := (HS.out.cV k hk).trans (by show some (Value.int .i64 (s.V k : Int)) = _; rw [hz]; rfl)
  have cv0 : w.cell? ⟨b, 2 + k, none⟩ = some (.int .i64 0) := by rw [cv, hz]; rfl
  have c10 := h.c10
  have c11 := h.c11
  have hne1 : 2 + k ≠ 10 := by omega
  have hne2 : 2 + k ≠ 11 := by omega
  have HG := Lib.hid (World.grownBy.trans (grown_set w b 10 (.int .i64 4)) (grown_set _ b 11 (.int .i64 a)))
  rw [hz]
  clear h hz cv
  go_enter Tryd.func66, Tryd.ntmps66
  go_wp2_with fail
  go_ret
  exact ⟨rfl, by rw [HL.out]; exact HS.out, HG.out⟩
 ·have HL := Lib.hid (show s.looked k a = s by unfold RunS.looked; rw [if_neg hz])
  generalize hV : s.V k = v at *
  have hb : ((v : Int) == 0) = false := by simp; omega
  clear h hz
  go_enter Tryd.func66, Tryd.ntmps66
  go_wp2_with fail
  go_ret
  exact ⟨rfl, by rw [HL.out]; exact H.out, World.grownBy.refl _ _⟩
theorem lets_get {s : ByteArray} (h : Lets s) (j : Nat) (hj : j < s.size) : ∃ k : Nat, k < 6 ∧ ((s[j]'hj).toNat : Int) = 97 + (k : Int) := by
 have hm : has s (s[j]'hj) = true := by
  unfold has
  rw [List.contains_iff_mem]
  exact Array.mem_toList_iff.2 (Array.getElem_mem hj)
 obtain ⟨h1, h2⟩ := h _ hm
 have h1' : 97 ≤ (s[j]'hj).toNat := h1
 have h2' : (s[j]'hj).toNat ≤ 102 := h2
 exact ⟨(s[j]'hj).toNat - 97, by omega, by omega⟩
def ClearRel (w : World) (b : Nat) (s : RunS) (n : Nat) (i : Value) (wr : World) : Prop :=
 ∃ (m : Nat) (ev : ByteArray) (V : Nat → Nat), m ≤ n ∧ i = .int .i64 ((m : Int) - 1) ∧ ev.size + 6 * m ≤ s.ev.size + 6 * n ∧ (∀ j, V j = s.V j ∨ V j = 0) ∧ Run wr b { s with ev := ev, V := V } ∧ w.grownBy wr (some b)
set_option maxHeartbeats 1600000 in
set_option maxRecDepth 100000 in
theorem clear_any (w : World) (b : Nat) (s : RunS) (vs : ByteArray) (h : Run w b s) (hl : Lets vs) (hv : vs.size ≤ 80) (hn : ∀ k, s.V k ≤ 9999) (hs : s.ev.size ≤ 990000) :
  Calls Tryd.prog 67 #[.pointer (some ⟨b, 0, none⟩), .string vs] w fun e w' => ∃ (ev : ByteArray) (V : Nat → Nat), ev.size ≤ s.ev.size + 6 * vs.size ∧ (∀ j, V j = s.V j ∨ V j = 0) ∧ e = .returned (.tuple #[]) ∧ Run w' b { s with ev := ev, V := V } ∧ w.grownBy w' (some b) := by
 have H := Lib.hid h
 have HL := Lib.hid hl
 have HN := Lib.hid hn
 clear h hl hn
 go_enter Tryd.func67, Tryd.ntmps67
 go_wp2_with fail
 go_loopw [4] (fun i wr => ClearRel w b s vs.size i wr) (fun i _ => (intOf i + 1).toNat)
 case atStart => exact ⟨vs.size, s.ev, s.V, Nat.le_refl _, rfl, Nat.le_refl _, fun j => .inl rfl, H.out, World.grownBy.refl _ _⟩
 case round =>
  obtain ⟨m, ev, V, hm, rfl, hev, hV, hr, hg⟩ := hrel
  have HR := Lib.hid hr
  have HG := Lib.hid hg
  have HV := Lib.hid hV
  have HE := Lib.hid hev
  have hev' : ev.size ≤ 1000000 := by omega
  clear hr hg hV
  by_cases hz : m = 0
  ·subst hz
   clear hm
   go_wp2_with fail
   go_end0
   exact ⟨ev, V, by have := HE.out; omega, HV.out, rfl, HR.out, HG.out⟩
  ·have hm1 : 0 ≤ (m : Int) - 1 := by omega
   have hm2 : (m : Int) - 1 < vs.size := by omega
   have hd : decide ((0 : Int) ≤ (m : Int) - 1) = true := by simp; omega
   obtain ⟨k, hk, hc⟩ := lets_get HL.out (m - 1) (by omega)
   have HC := Lib.hid hc
   clear hc
   go_wp2_with fail
   rw [HC.out]
   refine (destroy_any wr b _ k HR.out hk (by show V k ≤ 9999; have h1 := HN.out k; rcases HV.out k with e | e <;> omega) (by show ev.size ≤ 1000000; omega)).mono ?_
   rintro e w1 ⟨ev1, hev1, rfl, hr1, hg1⟩
   have hev1' : ev1.size ≤ ev.size + 6 := hev1
   have HV1 := Lib.hid (show ∀ j, zeroAt V k j = s.V j ∨ zeroAt V k j = 0 from fun j => by
    unfold zeroAt
    split
    ·exact .inr rfl
    ·exact HV.out j)
   have HR1 := Lib.hid hr1
   have HG1 := Lib.hid (World.grownBy.trans HG.out hg1)
   clear hr1 hg1 hev1
   go_wp2_with fail
   go_roundw
   case rel => exact ⟨m - 1, ev1, zeroAt V k, by omega, by congr 1; omega, by have := HE.out; omega, HV1.out, HR1.out, HG1.out⟩
   case measure => simp [intOf]; omega
def TakePost (w : World) (b : Nat) (s : RunS) (f : ByteArray) (e : Ending) (w' : World) : Prop :=
  w.grownBy w' (some b) ∧
  ((∃ asked, (asked = f ∨ asked = s.asked) ∧ e = .returned (.int .u8 0) ∧ Run w' b { s with stuck := true, asked := asked }) ∨
   (∃ h : s.at_ < s.ch.size, e = .returned (.int .u8 (s.ch[s.at_]'h).toNat) ∧ Run w' b { s with at_ := s.at_ + 1 }))
set_option maxHeartbeats 1600000 in
set_option maxRecDepth 100000 in
theorem take_any (w : World) (b : Nat) (s : RunS) (f : ByteArray) (h : Run w b s) (hf : f.size ≤ 10) (hc : s.ch.size ≤ 100) (ha : s.at_ ≤ 100) :
    Calls Tryd.prog 73 #[.pointer (some ⟨b, 0, none⟩), .string f] w (TakePost w b s f) := by
  have c0 := h.c0
  have c1 := h.c1
  have c12 := h.c12
  have c13 := h.c13
  have f1 := h.fz 1
  have f12 := h.fz 12
  have f13 := h.fz 13
  have H := Lib.hid h
  clear h
  have HG := Lib.hid (fun (a b' : Nat) (i j : Nat) (u v : Value) => World.grownBy.trans (World.grownBy.trans (World.grownBy.trans (grown_drewN w a (some b)) (grown_set _ b i u)) (grown_drewN _ b' (some b))) (grown_set _ b j v))
  have HK := Lib.hid (fun (a b' : Nat) => (((H.out.heap (w' := w.drewN a) rfl).setStuck true).heap (w' := ((w.drewN a).setCell ⟨b, 12, none⟩ (.bool true)).drewN b') rfl))
  by_cases hl : s.at_ < s.ch.size
  · have hd : decide ((s.ch.size : Int) ≤ (s.at_ : Int)) = false := by simp; omega
    have HF := Lib.hid (fun W => find_any f (s.ch[s.at_]'hl) _ rfl W (by omega))
    have HT := Lib.hid (fun (a : Nat) => (H.out.heap (w' := w.drewN a) rfl).setAt (s.at_ + 1))
    have HGT := Lib.hid (fun (a b' : Nat) (i : Nat) (u : Value) => World.grownBy.trans (World.grownBy.trans (grown_drewN w a (some b)) (grown_set _ b i u)) (grown_drewN _ b' (some b)))
    unfold TakePost
    generalize hS : s.at_ = at_ at *
    generalize hC : s.ch = ch at *
    by_cases hi : Lib.indexByte f.data.toList (ch[at_]'hl) < 0
    · go_enter Tryd.func73, Tryd.ntmps73
      go_wp2_with fail
      go_quiet ((go_at_call 71; exact Calls.quiet_of_same (HF.out _)))
      go_wp2_with fail
      go_quiet (fail)
      go_wp2_with fail
      go_ret
      exact ⟨HGT.out _ _ 12 (.bool true), .inl ⟨s.asked, .inr rfl, rfl, HK.out _ _⟩⟩
    · have hi' : 0 ≤ Lib.indexByte f.data.toList (ch[at_]'hl) := by omega
      have c1' := fun a => (HT.out a).c1
      have c0' := fun a => (HT.out a).c0
      go_enter Tryd.func73, Tryd.ntmps73
      go_wp2_with fail
      go_quiet ((go_at_call 71; exact Calls.quiet_of_same (HF.out _)))
      go_wp2_with fail
      go_quiet (fail)
      go_wp2_with fail
      go_ret
      exact ⟨HGT.out _ _ 1 _, .inr ⟨hl, rfl, (HT.out _).heap rfl⟩⟩
  · have hd : decide ((s.ch.size : Int) ≤ (s.at_ : Int)) = true := by simp; omega
    unfold TakePost
    generalize hA : s.at_ = at_ at *
    generalize hC : s.ch = ch at *
    go_enter Tryd.func73, Tryd.ntmps73
    go_wp2_with fail
    go_quiet (fail)
    go_wp2_with fail
    go_quiet (fail)
    go_wp2_with fail
    go_ret
    exact ⟨HG.out _ _ _ _ _ _, .inl ⟨f, .inl rfl, rfl, (HK.out _ _).setAsked f⟩⟩
def SortRel (w : World) (o i : Value) (wr : World) : Prop :=
 ∃ (j : Nat) (t : ByteArray), j ≤ 6 ∧ i = .int .u8 (97 + (j : Int)) ∧ o = .string t ∧ t.size ≤ j ∧ w.grownBy wr none
set_option maxHeartbeats 1600000 in
theorem sorted_any (w : World) (s : ByteArray) (hs : s.size ≤ 1000) : Calls Tryd.prog 63 #[.string s] w fun e w' => ∃ t : ByteArray, t.size ≤ 6 ∧ e = .returned (.string t) ∧ w.grownBy w' none := by
 have hcv := conv_byte
 have hsz := Lib.hid (fun x => strOfNums_size [x])
 go_enter Tryd.func63, Tryd.ntmps63
 go_wp2_with fail
 go_loopw [3, 4] (fun o i wr => SortRel w o i wr) (fun _ i _ => (103 - intOf i).toNat)
 case atStart => exact ⟨0, ⟨#[]⟩, by omega, rfl, rfl, Nat.zero_le _, World.grownBy.refl w none⟩
 case round =>
  obtain ⟨j, t, hj, rfl, rfl, ht, hg⟩ := hrel
  have HG0 := Lib.hid hg
  have HG := Lib.hid (fun o => World.grownBy.trans hg (World.grownBy_alloc wr o none))
  clear hg
  by_cases hlt : j < 6
  ·have hd : decide (97 + (j : Int) ≤ 102) = true := by simp; omega
   have hc : ((UInt8.ofNat (97 + j)).toNat : Int) = 97 + (j : Int) := by
    rw [UInt8.toNat_ofNat']; omega
   have HF := Lib.hid (fun W => find_any s (UInt8.ofNat (97 + j)) _ hc W (by omega))
   clear hc
   generalize Lib.indexByte s.data.toList (UInt8.ofNat (97 + j)) = x at *
   go_wp2_with fail
   refine (HF.out wr).mono ?_
   rintro e w1 ⟨rfl, rfl⟩
   by_cases hx : 0 ≤ x
   ·have hz1 : (strOfNums [97 + (j : Int)]).size ≤ 1 := by rw [hsz.out]; exact Nat.le_refl _
    go_wp2_with fail
    refine ⟨⟨j + 1, t ++ strOfNums [97 + (j : Int)], hlt, by congr 1 <;> omega, rfl, by rw [ByteArray.size_append]; omega, HG.out _⟩, by simp [intOf]; omega⟩
   ·go_wp2_with fail
    refine ⟨⟨j + 1, t, hlt, by congr 1 <;> omega, rfl, by omega, HG0.out⟩, by simp [intOf]; omega⟩
  ·have hd : decide (97 + (j : Int) ≤ 102) = false := by simp; omega
   go_wp2_with fail
   go_ret
   exact ⟨t, by omega, rfl, HG0.out⟩
theorem one_sub' (s : ByteArray) (k : Nat) (h : k < s.size) : (s.extract k (k + 1)).size ≤ 1 := by rw [ByteArray.size_extract]; omega
def OwnV (w : World) (ok : Nat → Prop) (v : Value) (n : Nat) : Prop := ∃ xs, w.ownsRow 0 115 2 v n xs ∧ ∀ k, v.ownBlock = some k → ok k
structure Save (w w' : World) (S : Nat → Prop) : Prop where
  os : w'.os = w.os
  tape : w'.tape = w.tape
  output : w'.output = w.output
  size : w.heap.size ≤ w'.heap.size
  block : ∀ j, j < w.heap.size → ¬ S j → w'.heap[j]? = w.heap[j]?
theorem Save.of {w w' : World} {r : Option Nat} (h : w.grownBy w' r) : Save w w' (fun j => r = some j) := ⟨h.os, h.tape, h.output, h.size, fun j hj hs => h.block j hj (fun e => hs e.symm)⟩
theorem Save.trans {a b c : World} {S T : Nat → Prop} (h : Save a b S) (k : Save b c T) {U : Nat → Prop} (hS : ∀ j, j < a.heap.size → S j → U j) (hT : ∀ j, j < a.heap.size → T j → U j) : Save a c U :=
  ⟨k.os.trans h.os, k.tape.trans h.tape, k.output.trans h.output, Nat.le_trans h.size k.size, fun j hj hu => (k.block j (Nat.lt_of_lt_of_le hj h.size) (fun t => hu (hT j hj t))).trans (h.block j hj (fun s => hu (hS j hj s)))⟩
theorem info115 : (Tryd.prog.info? 115).map (fun i => (i.zero, i.size, i.bytes)) = some (some (.agg #[.int .i64 0, .string ByteArray.empty]), 2, 24) := by kernel_rfl
theorem rowKeep {w w' : World} {v : Value} {n : Nat} {xs : List Value} (h : w.ownsRow 0 115 2 v n xs) (hk : ∀ j, v.ownBlock = some j → j < w.heap.size → w'.heap[j]? = w.heap[j]?) : w'.ownsRow 0 115 2 v n xs := by
  refine ⟨h.1, ?_⟩
  rcases h.2 with hn | ⟨g, cap, cur, hv, hb, hg, r⟩
  · exact .inl hn
  · refine .inr ⟨g, cap, cur, hv, hb, ?_, r⟩
    rw [hk g (by rw [hv]; rfl) (Array.getElem?_eq_some_iff.1 hg).1]
    exact hg
def HoldRel (w : World) (n : Nat) (o i : Value) (wr : World) : Prop :=
  ∃ (k d : Nat) (t : ByteArray), k ≤ n ∧ i = .int .i64 k ∧ o = .string t ∧ t.size ≤ k ∧ wr = w.drewN d
set_option maxHeartbeats 1600000 in
set_option maxRecDepth 100000 in
theorem visit_any (w : World) (b : Nat) (s : RunS) (a : Int) (sc : ByteArray) (nv : Nat) (ok : Nat → Prop) (h : Run w b s) (hl : Lets sc) (hs : sc.size ≤ 200) (hv : OwnV w ok s.vis nv) (hb : ¬ ok b) (hn : nv ≤ 100000) :
    Calls Tryd.prog 50 #[.pointer (some ⟨b, 0, none⟩), .int .i64 a, .string sc] w fun e w' => ∃ v : Value, e = .returned (.tuple #[]) ∧ Run w' b { s with vis := v } ∧ OwnV w' (fun j => ok j ∨ w.heap.size ≤ j) v (nv + 1) ∧ Save w w' (fun j => j = b ∨ s.vis.ownBlock = some j) := by
  have H := Lib.hid h
  have HL := Lib.hid hl
  clear h hl
  go_enter Tryd.func50, Tryd.ntmps50
  go_wp2_with fail
  go_loopw [6, 10] (fun o i wr => HoldRel w sc.size o i wr) (fun _ i _ => sc.size - (intOf i).toNat)
  case atStart => exact ⟨0, 0, ⟨#[]⟩, Nat.zero_le _, rfl, rfl, Nat.zero_le _, rfl⟩
  case round =>
    obtain ⟨k, d, t, hk, rfl, rfl, ht, rfl⟩ := hrel
    by_cases hlt : k < sc.size
    · obtain ⟨j, hj, hc⟩ := lets_get HL.out k hlt
      have HC := Lib.hid hc
      have cv := H.out.cV j hj
      have ho := one_sub' sc k hlt
      generalize hx : s.V j = x at *
      by_cases hp : 0 < x
      · have hd : decide ((0 : Int) < (x : Int)) = true := by simp; omega
        go_wp2_with fail
        go_quiet (fail)
        go_wp2_with fail
        refine ⟨⟨k + 1, d + nq, t ++ sc.extract k (k + 1), hlt, by go_num, rfl, by rw [ByteArray.size_append]; omega, rfl⟩, by simp [intOf]; omega⟩
      · have hd : decide ((0 : Int) < (x : Int)) = false := by simp; omega
        go_wp2_with fail
        go_quiet (fail)
        go_wp2_with fail
        refine ⟨⟨k + 1, d + nq, t, hlt, by go_num, rfl, by omega, rfl⟩, by simp [intOf]; omega⟩
    · have hkk : k = sc.size := by omega
      go_wp2_with fail
      obtain ⟨xs, hrow, hlet⟩ := hv
      have hbv : ∀ j, s.vis.ownBlock = some j → j ≠ b := fun j hj e => hb (e ▸ hlet j hj)
      have HBV := Lib.hid hbv
      have HROW := Lib.hid hrow
      have HLET := Lib.hid hlet
      have c14 := H.out.c14
      have f14 := H.out.fz 14
      obtain ⟨i0, hi0, hz0, hz1, hz2⟩ := info_parts info115
      have hl1 : (nv + 1) * 24 ≤ 140737488355328 := by omega
      have hl2 : nv + 1 ≤ maxLen := by simp [maxLen]; omega
      have ht200 : t.size ≤ 1000 := by omega
      clear hrow hlet hbv hb
      generalize hV : s.vis = V at *
      go_region_law (first
        | (refine step_append_lies _ (by rfl) _ _ _ (by rfl) 0 115 i0 _ 2 24 Tryd.underlying67 hi0 hz0 hz1 hz2 rfl (by omega) V nv xs (by rfl) (row4.alloc _)
            ⟨w4.heap.size, 0, none⟩ 1 1 [.int .i64 a, .string t4] (by rfl) (by rfl) (World.news_of_block (cs := #[.int .i64 a, .string t4]) (t := 115) (fr := (0, 0)) (heap_alloc_new w4 _))
            (by intro u hu; simp at hu; rcases hu with rfl | rfl <;> rfl) (by omega) hl2 hl1 (Nat.zero_le _) (w4.heap.size + 1) (by simp) ?_
           intro g5 cap5 w5 hown5 hgrow5 hat5 hlt5
           have H5 := Lib.hid ((H4.out.grown (World.grownBy_alloc w4 (.cells #[.int .i64 a, .string t4] 115) none) (by simp)).grown hgrow5 (fun e => HBV.out b e.symm rfl))
           have HO5 := Lib.hid hown5
           have HA5 := Lib.hid hat5
           have HGR := Lib.hid hgrow5
           have c5 := H5.out.c14
           have f5 := H5.out.fz 14)
        | (go_simp
           go_at_call 63
           refine Calls.mono (sorted_any _ t ht200) ?_
           rintro e w4 ⟨t4, ht4, rfl, hg4⟩
           have H4 := Lib.hid ((H.out.heap (by rfl)).grown hg4 (by simp))
           have HG4 := Lib.hid (World.grownBy.trans (heap_grown (World.grownBy.refl w none) (by rfl) (by rfl) (by rfl) (by rfl)) hg4)
           have row4 := rowKeep HROW.out (w' := w4) (fun j hj hlt => hg4.block j hlt (by simp))
           have c14' := H4.out.c14
           have c14a := fun o => (H4.out.grown (World.grownBy_alloc w4 o none) (by simp)).c14
           rw [hV] at c14'))
      all_goals
        have hb4 := H.out.lt
        have hs4 := HG4.out.size
        have hgb : g5 ≠ b := by
          rcases HA5.out with e | e
          · exact HBV.out g5 e
          · omega
        have hfin := H5.out.setVis (.slice (some ⟨g5, 0, none⟩) (nv + 1) cap5)
        have hrow := rowKeep HO5.out (w' := w5.setCell ⟨b, 14, none⟩ (.slice (some ⟨g5, 0, none⟩) (nv + 1) cap5)) (fun j hj _ => Below.heap_setCell w5 _ _ j (by
          simp only [Value.ownBlock] at hj
          have : g5 = j := by simpa using hj
          show j ≠ b
          omega))
        have hsv : Save w (w5.setCell ⟨b, 14, none⟩ (.slice (some ⟨g5, 0, none⟩) (nv + 1) cap5)) (fun j => j = b ∨ V.ownBlock = some j) :=
          ((Save.of (World.grownBy.trans HG4.out (World.grownBy_alloc w4 _ none))).trans (Save.of HGR.out) (U := fun j => V.ownBlock = some j) (fun j _ e => by cases e) (fun j _ e => e)).trans (Save.of (grown_set w5 b 14 (.slice (some ⟨g5, 0, none⟩) (nv + 1) cap5))) (fun j _ e => .inr e) (fun j _ e => .inl (Option.some.inj e).symm)
        go_end0
        exact ⟨_, rfl, hfin, ⟨_, hrow, fun j hj => by
          have hj' : g5 = j := by simpa [Value.ownBlock] using hj
          subst hj'
          rcases HA5.out with e | e
          · exact .inl (HLET.out g5 e)
          · exact .inr (by omega)⟩, by rw [hV]; exact hsv⟩
end Go.Proofs.YtojhdfdhfajjjaaDoor
