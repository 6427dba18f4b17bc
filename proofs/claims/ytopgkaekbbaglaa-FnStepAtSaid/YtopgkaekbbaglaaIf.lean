/- Contracts of the program's reader: what is said of steps, of a step, of a body; a body. -/
import Derived.Test.YtopgkaekbbaglaaIe
import Derived.Deep.RegionWith
import Derived.RegionTactic
import Derived.Handy
namespace Go.Proofs.Ytopgkaekbbaglaa
open Go.RowKit Pl

def StepsPost (p : ByteArray) (b : Nat) (R : Option (T × Nat)) (w : World) (e : Ending) (w' : World) : Prop :=
  w.grownBy w' (some b) ∧
  ((R = none ∧ ∃ v, e = .returned (.tuple #[v, .bool false])) ∨
   ∃ t m v cs, R = some (t, m) ∧ m ≤ p.size ∧ e = .returned (.tuple #[v, .bool true]) ∧ Rdr w' b p m ∧ PCells w' (fun j => w.heap.size ≤ j) t cs ∧ Own w' (fun j => w.heap.size ≤ j) 49 v cs)
def StepPost (p : ByteArray) (b : Nat) (R : Option (Inf × T × T × Nat)) (w : World) (e : Ending) (w' : World) : Prop :=
  w.grownBy w' (some b) ∧
  ((R = none ∧ ∃ v, e = .returned (.tuple #[v, .bool false])) ∨
   ∃ i b0 b1 m g, R = some (i, b0, b1, m) ∧ m ≤ p.size ∧ e = .returned (.tuple #[.pointer (some ⟨g, 0, none⟩), .bool true]) ∧ Rdr w' b p m ∧ PCells w' (fun j => w.heap.size ≤ j) (.cons i b0 b1 .nil) [.pointer (some ⟨g, 0, none⟩)])
def StepsC (p : ByteArray) (n : Nat) : Prop := ∀ (w : World) (b : Nat) (ar : ByteArray) (sc : Nat), Rdr w b p n → n ≤ p.size → ar.size ≤ n → sc ≤ 4 →
  Calls Try.prog 71 #[.pointer (some ⟨b, 0, none⟩), .string ar, .int .i64 sc] w (StepsPost p b (ISteps p n ar sc) w)
def BodyC (p : ByteArray) (n : Nat) : Prop := ∀ (w : World) (b : Nat) (ar : ByteArray) (sc : Nat), Rdr w b p n → n ≤ p.size → ar.size ≤ n → sc ≤ 4 →
  Calls Try.prog 69 #[.pointer (some ⟨b, 0, none⟩), .string ar, .int .i64 sc] w (StepsPost p b (IBody p n ar sc) w)
def StepC (p : ByteArray) (n : Nat) : Prop := ∀ (w : World) (b : Nat) (ar : ByteArray) (sc : Nat), Rdr w b p n → n < p.size → ar.size ≤ n → sc ≤ 4 →
  Calls Try.prog 57 #[.pointer (some ⟨b, 0, none⟩), .string ar, .int .i64 sc] w (StepPost p b (IStep p n ar sc) w)

theorem grown_le {w w' : World} {r : Option Nat} (h : w.grownBy w' r) : w.heap.size ≤ w'.heap.size := h.size
/-- what a later call leaves of the trees that were made before it -/
theorem keep_of {w w' : World} {b B : Nat} (hg : w.grownBy w' (some b)) (hb : b < B) : ∀ j, B ≤ j → j < w.heap.size → w'.heap[j]? = w.heap[j]? := fun j hj hlt => hg.block j hlt (by simp; omega)

set_option maxHeartbeats 400000 in
theorem body_any (p : ByteArray) (n : Nat) (hp : p.size ≤ 80) (hS : StepsC p (n + 1)) : BodyC p n := by
  intro w b ar sc hr hn har hsc
  by_cases ha : isAt p n 91 = true
  · have hI : IBody p n ar sc = (match ISteps p (n + 1) ar sc with | none => none | some (t, m) => if isAt p m 93 then some (t, m + 1) else none) := by
      rw [IBody_eq, if_pos ha]
      cases ISteps p (n + 1) ar sc <;> rfl
    have HI := Lib.hid hI
    clear hI
    go_enter Try.func69, Try.ntmps69
    go_wp2_with fail
    refine (takes_any w b n p 91 _ rfl hr (by omega)).mono ?_
    rintro e w1 ⟨rfl, hr1, hg1⟩
    rw [ha] at hr1 ⊢
    rw [if_pos rfl] at hr1
    have hn1 := isAt_lt ha
    have HA := Lib.hid ha
    clear ha
    go_wp2_with fail
    refine (hS w1 b ar sc hr1 hn1 (by omega) hsc).mono ?_
    rintro e w2 ⟨hg2, h⟩
    rcases h with ⟨h1, v, rfl⟩ | ⟨t, m, v, cs, h1, hm, rfl, hr2, hc, ho⟩
    · have H1 := Lib.hid h1
      clear h1
      go_wp2_with fail
      go_ret2
      exact ⟨World.grownBy.trans hg1 hg2, .inl ⟨by rw [HI.out, H1.out], _, rfl⟩⟩
    · have H1 := Lib.hid h1
      clear h1
      have hb1 : b < w1.heap.size := hr1.lt
      go_wp2_with fail
      refine (takes_any w2 b m p 93 _ rfl hr2 (by omega)).mono ?_
      rintro e w3 ⟨rfl, hr3, hg3⟩
      have hgg := World.grownBy.trans hg1 (World.grownBy.trans hg2 hg3)
      have hk := keep_of (B := w1.heap.size) hg3 hb1
      have hle := hg1.size
      by_cases hb : isAt p m 93 = true
      · rw [hb] at hr3 ⊢
        rw [if_pos rfl] at hr3
        have hm1 := isAt_lt hb
        have HB := Lib.hid hb
        clear hb
        have HC := Lib.hid hc
        have HO := Lib.hid ho
        have HK := Lib.hid hk
        clear hc ho hk
        go_wp2_with fail
        go_ret2
        refine ⟨hgg, .inr ⟨t, m + 1, v, cs, by rw [HI.out, H1.out]; simp only []; rw [if_pos HB.out], hm1, rfl, hr3, (HC.out.keep HK.out).mono (fun j hj => by omega), (HO.out.keep HK.out).mono (fun j hj => by omega)⟩⟩
      · have hb' : isAt p m 93 = false := by simpa using hb
        rw [hb']
        have HB := Lib.hid hb
        clear hb hb' hc ho hk
        go_wp2_with fail
        go_ret2
        exact ⟨hgg, .inl ⟨by rw [HI.out, H1.out]; simp only []; rw [if_neg HB.out], _, rfl⟩⟩
  · have hI : IBody p n ar sc = none := by rw [IBody_eq, if_neg ha]
    have ha' : isAt p n 91 = false := by simpa using ha
    have HI := Lib.hid hI
    clear hI
    go_enter Try.func69, Try.ntmps69
    go_wp2_with fail
    refine (takes_any w b n p 91 _ rfl hr (by omega)).mono ?_
    rintro e w1 ⟨rfl, hr1, hg1⟩
    rw [ha']
    clear ha ha'
    go_wp2_with fail
    go_ret2
    exact ⟨hg1, .inl ⟨HI.out, _, rfl⟩⟩
end Go.Proofs.Ytopgkaekbbaglaa
