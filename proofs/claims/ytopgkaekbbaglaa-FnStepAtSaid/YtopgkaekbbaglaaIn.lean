/- The contract of the program's parse and ProgramValid. -/
import Derived.Test.YtopgkaekbbaglaaIm
namespace Go.Proofs.Ytopgkaekbbaglaa
open Go.RowKit Pl

def ParsePost (p : ByteArray) (w : World) (e : Ending) (w' : World) : Prop :=
  Below w.heap.size w w' ∧
  ((IParse p = none ∧ e = .returned (.pointer none)) ∨
   ∃ i b0 b1 g, IParse p = some (i, b0, b1) ∧ e = .returned (.pointer (some ⟨g, 0, none⟩)) ∧ PCells w' (fun j => w.heap.size ≤ j) (.cons i b0 b1 .nil) [.pointer (some ⟨g, 0, none⟩)])

theorem below_of_grown {w w' : World} {b : Nat} {o : Obj} (h : (w.alloc o).grownBy w' (some b)) (hb : w.heap.size ≤ b) : Below w.heap.size w w' :=
  ((Below.refl _ w).alloc (Nat.le_refl _) o).grown h (by simp) (fun k hk => by cases hk; exact hb)

set_option maxHeartbeats 400000 in
theorem parse_any (p : ByteArray) (w : World) (hp : p.size ≤ 1048576) : Calls Try.prog 41 #[.string p] w (ParsePost p w) := by
  by_cases h1 : 80 < p.size
  · have hI := Lib.hid (show IParse p = none by unfold IParse; rw [if_pos (.inl h1)])
    have h1' : decide ((80 : Int) < (p.size : Int)) = true := by simp; omega
    go_enter Try.func41, Try.ntmps41
    go_wp2_with fail
    go_ret
    exact ⟨Below.refl _ _, .inl ⟨hI.out, rfl⟩⟩
  · by_cases h2 : p.size = 0
    · have hI := Lib.hid (show IParse p = none by unfold IParse; rw [if_pos (.inr (.inl h2))])
      have he : p.toList.isEmpty = true := by
        rw [Lib.toList_data]
        have h : p.data.toList.length = p.size := Array.length_toList
        cases hs : p.data.toList with
        | nil => rfl
        | cons a l => rw [hs, h2] at h; simp at h
      have H2 := Lib.hid h2
      clear h2
      go_enter Try.func41, Try.ntmps41
      go_wp2_with fail
      go_ret
      exact ⟨Below.refl _ _, .inl ⟨hI.out, rfl⟩⟩
    · have hn : 0 < p.size := by omega
      have he : p.toList.isEmpty = false := by
        rw [Lib.toList_data]
        have h : p.data.toList.length = p.size := Array.length_toList
        cases hs : p.data.toList with
        | nil => rw [hs] at h; simp at h; omega
        | cons a l => rfl
      by_cases h3 : bAt p 0 = 123
      · have hb : (((p[0]'hn).toNat : Int) != 123) = false := by rw [bAt_get hn, h3]; rfl
        have H3 := Lib.hid h3
        have hI : IParse p = (match IStep p 0 ByteArray.empty 0 with | none => none | some (i, b0, b1, m) => if m = p.size then some (i, b0, b1) else none) := by
          unfold IParse
          rw [if_neg (by rintro (h | h | h); exact h1 h; exact h2 h; exact h h3)]
          cases IStep p 0 ByteArray.empty 0 <;> rfl
        have HI := Lib.hid hI
        clear hI h3
        go_enter Try.func41, Try.ntmps41
        go_wp2_with fail
        have hr : Rdr (w.alloc (.cells #[.string p, .int .i64 0] 76)) w.heap.size p 0 := heap_alloc_new w _
        refine (step_all p (by omega) 0 _ w.heap.size ⟨#[]⟩ 0 hr hn (Nat.le_refl _) (by omega)).mono ?_
        rintro e w1 ⟨hg, h⟩
        rcases h with ⟨hs, v, rfl⟩ | ⟨i, b0, b1, m, g, hs, hm, rfl, hr1, hc⟩
        · have HS := Lib.hid hs
          clear hs
          go_wp2_with fail
          go_ret
          exact ⟨below_of_grown hg (Nat.le_refl _), .inl ⟨by rw [HI.out]; rw [show IStep p 0 ByteArray.empty 0 = none from HS.out], rfl⟩⟩
        · have HS := Lib.hid hs
          have HC := Lib.hid hc
          have hr10 := hr1.c1
          clear hs hc
          by_cases hz : m = p.size
          · have hz' : ((m : Int) != (p.size : Int)) = false := by rw [hz]; simp
            have HZ := Lib.hid hz
            clear hz
            go_wp2_with fail
            go_ret
            exact ⟨below_of_grown hg (Nat.le_refl _), .inr ⟨i, b0, b1, g, by rw [HI.out]; rw [show IStep p 0 ByteArray.empty 0 = _ from HS.out]; simp only []; rw [if_pos HZ.out], rfl, HC.out.mono (fun j hj => by simp at hj; omega)⟩⟩
          · have hz' : ((m : Int) != (p.size : Int)) = true := by rw [bne_iff_ne]; omega
            have HZ := Lib.hid hz
            clear hz
            go_wp2_with fail
            go_ret
            exact ⟨below_of_grown hg (Nat.le_refl _), .inl ⟨by rw [HI.out]; rw [show IStep p 0 ByteArray.empty 0 = _ from HS.out]; simp only []; rw [if_neg HZ.out], rfl⟩⟩
      · have hb : (((p[0]'hn).toNat : Int) != 123) = true := by
          rw [bAt_get hn, bne_iff_ne]
          intro h
          exact h3 ((byte_eq _ 123).1 h)
        have hI := Lib.hid (show IParse p = none by unfold IParse; rw [if_pos (.inr (.inr h3))])
        clear h3
        go_enter Try.func41, Try.ntmps41
        go_wp2_with fail
        go_ret
        exact ⟨Below.refl _ _, .inl ⟨hI.out, rfl⟩⟩

/-- ProgramValid -/
theorem valid_any (p : ByteArray) (w : World) (hp : p.size ≤ 1048576) : Calls Try.prog 20 #[.string p] w fun e w' => e = .returned (.bool (IParse p).isSome) ∧ Below w.heap.size w w' := by
  go_enter Try.func20, Try.ntmps20
  go_wp2_with fail
  refine (parse_any p w hp).mono ?_
  rintro e w1 ⟨hb, h⟩
  rcases h with ⟨hs, rfl⟩ | ⟨i, b0, b1, g, hs, rfl, hc⟩
  · have HS := Lib.hid hs
    clear hs
    go_wp2_with fail
    go_ret
    exact ⟨by rw [HS.out]; rfl, hb⟩
  · have HS := Lib.hid hs
    clear hs hc
    go_wp2_with fail
    go_ret
    exact ⟨by rw [HS.out]; rfl, hb⟩
end Go.Proofs.Ytopgkaekbbaglaa
