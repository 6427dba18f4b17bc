/- DepthOf, of the program and of the reference; the law. -/
import Derived.Test.YtopgkaekbbaglaaDe
import Derived.Test.YtopgkaekbbaglaaEb
import Derived.Test.YtopgkaekbbaglaaSn
namespace Go.Proofs.Ytopgkaekbbaglaa
open Go.RowKit Pl

/-- the cells of a step -/
def sixCells (i : Inf) (A : Option Addr) (c : Nat) : Array Value := #[.int .u8 i.kind.toNat, .int .i64 i.at_, .int .i64 i.end_, .string i.vars, .slice A i.nb c, .string i.scope]
/-- what the reference's reader has left, for use in the world where the step is stored -/
theorem read_parts {p : ByteArray} {w w1 : World} {i : Inf} {b0 b1 : T} {bs : Value} (hb : Below w.heap.size w w1) (hs : SParse p = some (i, b0, b1)) (hc : SCells w1 (fun j => w.heap.size ≤ j) (.cons i b0 b1 .nil) (six i bs)) :
    ∃ A c, bs = .slice A i.nb c ∧ IParse p = some (i, b0, b1) ∧ (T.cons i b0 b1 .nil).count ≤ 80 ∧ (∀ o, Below w.heap.size w (w1.alloc o)) ∧ ∀ o, SCells (w1.alloc o) (fun j => j < w1.heap.size) (.cons i b0 b1 .nil) (six i (.slice A i.nb c)) := by
  obtain ⟨A, c, rfl, hn, _⟩ := sstep_parts hc
  have hI : IParse p = some (i, b0, b1) := by rw [← parse_eq]; exact hs
  refine ⟨A, c, rfl, hI, parse_count hI, fun o => hb.trans ((below_of (World.grownBy_alloc w1 o none)).mono hb.size), fun o => ?_⟩
  exact (hc.bound.keep (fun j hj _ => (World.grownBy_alloc w1 o none).block j hj.2 (by simp))).mono (fun j hj => hj.2)

def depthOf (p : ByteArray) : Int := match IParse p with
  | none => -1
  | some (i, b0, b1) => (ndep i b0 b1 : Int)
theorem depthOf_none {p : ByteArray} (h : IParse p = none) : depthOf p = -1 := by unfold depthOf; rw [h]
theorem depthOf_some {p : ByteArray} {i : Inf} {b0 b1 : T} (h : IParse p = some (i, b0, b1)) : depthOf p = (ndep i b0 b1 : Int) := by unfold depthOf; rw [h]
set_option maxHeartbeats 800000 in
set_option maxRecDepth 1000000 in
theorem idepthof_any (p : ByteArray) (w : World) (hp : p.size ≤ 1048576) : Calls Try.prog 22 #[.string p] w fun e w' => e = .returned (.int .i64 (depthOf p)) ∧ Below w.heap.size w w' := by
  go_enter Try.func22, Try.ntmps22
  go_wp2_with fail
  refine (parse_any p w hp).mono ?_
  rintro e w1 ⟨hb, h⟩
  have HB := Lib.hid hb
  clear hb
  rcases h with ⟨hs, rfl⟩ | ⟨i, b0, b1, g, hs, rfl, hc⟩
  · have HS := Lib.hid hs
    clear hs
    go_wp2_with fail
    go_ret
    exact ⟨by rw [depthOf_none HS.out]; rfl, HB.out⟩
  · have hm := parse_count hs
    have HD := Lib.hid (depth_any _ i b0 b1 (by omega) (Nat.le_refl _) w1 _ g hc)
    have HS := Lib.hid hs
    clear hs hc
    go_wp2_with fail
    refine HD.out.mono ?_
    rintro e w2 ⟨rfl, rfl⟩
    go_wp2_with fail
    go_ret
    exact ⟨by rw [depthOf_some HS.out]; rfl, HB.out⟩
set_option maxHeartbeats 800000 in
set_option maxRecDepth 1000000 in
theorem sdepthof_any (p : ByteArray) (w : World) (hp : p.size ≤ 1048576) : Calls Try.prog 21 #[.string p] w fun e w' => e = .returned (.int .i64 (depthOf p)) ∧ Below w.heap.size w w' := by
  go_enter Try.func21, Try.ntmps21
  go_wp2_with fail
  refine (read_any p w hp).mono ?_
  rintro e w1 ⟨hb, h⟩
  rcases h with ⟨hs, rfl⟩ | ⟨i, b0, b1, bs, hs, rfl, hc⟩
  · have HS := Lib.hid (show IParse p = none by rw [← parse_eq]; exact hs)
    have HB := Lib.hid hb
    clear hs hb
    unfold zeroSix
    go_wp2_with fail
    go_ret
    exact ⟨by rw [depthOf_none HS.out]; rfl, HB.out.trans (below_of (World.grownBy_alloc w1 _ none) |>.mono HB.out.size)⟩
  · obtain ⟨A, c, rfl, hI, hm, hba, hca⟩ := read_parts hb hs hc
    have HD := Lib.hid (fun o => sdepth_any _ i b0 b1 (by omega) (Nat.le_refl _) (w1.alloc o) (fun j => j < w1.heap.size) A c (fun j hj => by simp; omega) (hca o))
    have HS := Lib.hid hI
    have HB := Lib.hid hba
    clear hb hs hc hI hba hca
    go_wp2_with fail
    refine (HD.out _).mono ?_
    rintro e w2 ⟨rfl, hb2⟩
    have HB2 := Lib.hid ((HB.out _).trans (hb2.mono (HB.out _).size))
    clear hb2
    go_wp2_with fail
    go_ret
    exact ⟨by rw [depthOf_some HS.out]; rfl, HB2.out⟩
set_option maxHeartbeats 800000 in
theorem law_depth (p : ByteArray) (w : World) : Calls Try.prog 7 #[.string p] w fun e w' => e = .returned (.bool true) ∧ Below w.heap.size w w' := by
  by_cases h : 1048576 < p.size
  · have g : decide ((1048576 : Int) < (p.size : Int)) = true := by simp; omega
    go_enter Try.func7, Try.ntmps7
    go_wp2_with fail
    go_ret
    exact ⟨rfl, Below.refl _ _⟩
  · have g : decide ((1048576 : Int) < (p.size : Int)) = false := by simp; omega
    have hp : p.size ≤ 1048576 := by omega
    clear h
    go_enter Try.func7, Try.ntmps7
    go_wp2_with fail
    refine (sdepthof_any p w hp).mono ?_
    rintro e w1 ⟨rfl, hb1⟩
    go_wp2_with fail
    refine (idepthof_any p w1 hp).mono ?_
    rintro e w2 ⟨rfl, hb2⟩
    have HB := Lib.hid (hb1.trans (hb2.mono hb1.size))
    have hne : (depthOf p != depthOf p) = false := by simp
    clear hb1 hb2
    generalize depthOf p = d at *
    go_wp2_with fail
    go_ret
    exact ⟨rfl, HB.out⟩
end Go.Proofs.Ytopgkaekbbaglaa
