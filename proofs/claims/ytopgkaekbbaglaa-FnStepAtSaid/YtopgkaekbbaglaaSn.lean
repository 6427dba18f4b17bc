/- The reference's ProgramValid; the law. -/
import Derived.Test.YtopgkaekbbaglaaSl
import Derived.Test.YtopgkaekbbaglaaSm
namespace Go.Proofs.Ytopgkaekbbaglaa
open Go.RowKit Pl

theorem read_any (p : ByteArray) (w : World) (hp : p.size ≤ 1048576) : Calls Try.prog 40 #[.string p] w (ReadPost p w) := by
  by_cases h : p.size = 0 ∨ bAt p 0 ≠ 123 ∨ 80 < p.size
  · exact read_none p w hp h
  · exact read_some p w h (sstep_all p (by omega) _ 0 (Nat.le_refl _))

theorem scells_form {w : World} {ok : Nat → Prop} {i : Inf} {b0 b1 r : T} {bs : Value} {cs : List Value} (h : SCells w ok (.cons i b0 b1 r) (six i bs ++ cs)) : ∃ A m c, bs = .slice A m c := by
  obtain ⟨bs', v0, v1, rest, c0, c1, e, h0, o0, h1, o1, hn, ob, hr⟩ := h
  obtain ⟨A, c, hf⟩ := ob.form
  have : bs = bs' := by
    simp [six] at e
    exact e.1
  exact ⟨A, _, c, this.trans hf⟩
set_option maxHeartbeats 800000 in
set_option maxRecDepth 1000000 in
theorem svalid_any (p : ByteArray) (w : World) (hp : p.size ≤ 1048576) : Calls Try.prog 19 #[.string p] w fun e w' => e = .returned (.bool (SParse p).isSome) ∧ Below w.heap.size w w' := by
  go_enter Try.func19, Try.ntmps19
  go_wp2_with fail
  refine (read_any p w hp).mono ?_
  rintro e w1 ⟨hb, h⟩
  rcases h with ⟨hs, rfl⟩ | ⟨i, b0, b1, bs, hs, rfl, hc⟩
  · have HS := Lib.hid hs
    have HB := Lib.hid hb
    clear hs hb
    unfold zeroSix
    go_wp2_with fail
    go_ret
    exact ⟨by rw [HS.out]; rfl, HB.out.trans (below_of (World.grownBy_alloc w1 _ none) |>.mono HB.out.size)⟩
  · obtain ⟨A, mm, cp, rfl⟩ := scells_form (cs := []) (by rw [List.append_nil]; exact hc)
    have HS := Lib.hid hs
    have HB := Lib.hid hb
    clear hs hb hc
    go_wp2_with fail
    go_ret
    exact ⟨by rw [HS.out]; rfl, HB.out.trans (below_of (World.grownBy_alloc w1 _ none) |>.mono HB.out.size)⟩
end Go.Proofs.Ytopgkaekbbaglaa
