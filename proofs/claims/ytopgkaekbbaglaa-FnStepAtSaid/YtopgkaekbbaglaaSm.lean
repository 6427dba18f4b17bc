/- The contract of the reference's reader of a whole program. -/
import Derived.Test.YtopgkaekbbaglaaSd
import Derived.Test.YtopgkaekbbaglaaIn
namespace Go.Proofs.Ytopgkaekbbaglaa
open Go.RowKit Pl

/-- the step without a content -/
def zeroSix : Value := .agg #[.int .u8 0, .int .i64 0, .int .i64 0, .string ByteArray.empty, .slice none 0 0, .string ByteArray.empty]
/-- what the reference's reader of a whole program leaves -/
def ReadPost (p : ByteArray) (w : World) (e : Ending) (w' : World) : Prop := Below w.heap.size w w' ∧
  ((SParse p = none ∧ e = .returned (.tuple #[zeroSix, .bool false])) ∨
   ∃ i b0 b1 bs, SParse p = some (i, b0, b1) ∧ e = .returned (.tuple #[.agg #[.int .u8 i.kind.toNat, .int .i64 i.at_, .int .i64 i.end_, .string i.vars, bs, .string i.scope], .bool true]) ∧
     SCells w' (fun j => w.heap.size ≤ j) (.cons i b0 b1 .nil) (six i bs))
theorem results40 : Try.f40.results = #[ResultVar.cell 2 46, ResultVar.tmp 3] := by kernel_rfl
theorem ret40 {w : World} {r : Nat} {k : UInt8} {n en : Nat} {vs sc : ByteArray} {bs x : Value} {tmps : Array Value} (ht : tmps[2]?.getD undef = .pointer (some ⟨r, 0, none⟩)) (hx : tmps[3]?.getD undef = x) (h : SNode w r k n en vs bs sc) :
    (results Try.f40 tmps).run Try.prog w = .ok (.tuple #[.agg #[.int .u8 k.toNat, .int .i64 n, .int .i64 en, .string vs, bs, .string sc], x]) w := by
  unfold results
  rw [results40]
  have hl := loadVar46 h
  simp [ht, hx, asAddr, hl]

theorem below_read {w w3 : World} {o : Obj} {k : UInt8} {n en : Nat} {vs sc : ByteArray} {bs : Value} (h : w.grownBy w3 none) : Below w.heap.size w (setSix (w3.alloc o) w.heap.size k n en vs bs sc) := by
  have a := (World.grownBy.trans h (World.grownBy_alloc w3 o none)).andThen (setSix_grown (r := w.heap.size) (k := k) (n := n) (en := en) (vs := vs) (bs := bs) (sc := sc) _) (fun j hj => by cases hj; exact .inl (Nat.le_refl _))
  exact ⟨a.os, a.tape, a.output, a.size, fun j hj => a.block j hj (by simp)⟩
theorem zero_six {w : World} {r : Nat} (h : SNode w r 0 0 0 ByteArray.empty (.slice none 0 0) ByteArray.empty) : SNode ((((((w.setCell ⟨r, 0, none⟩ (.int .u8 0)).setCell ⟨r, 1, none⟩ (.int .i64 0)).setCell ⟨r, 2, none⟩ (.int .i64 0)).setCell ⟨r, 3, none⟩ (.string { data := #[] })).setCell ⟨r, 4, none⟩ (.slice none 0 0)).setCell ⟨r, 5, none⟩ (.string { data := #[] })) r 0 0 0 ByteArray.empty (.slice none 0 0) ByteArray.empty :=
  SNode.setSix (k' := 0) (n' := 0) (en' := 0) (vs' := ByteArray.empty) (bs' := .slice none 0 0) (sc' := ByteArray.empty) h
theorem below_zero {w w3 : World} {o : Obj} (h : w.grownBy w3 none) : Below w.heap.size w (((((((w3.alloc o).setCell ⟨w.heap.size, 0, none⟩ (.int .u8 0)).setCell ⟨w.heap.size, 1, none⟩ (.int .i64 0)).setCell ⟨w.heap.size, 2, none⟩ (.int .i64 0)).setCell ⟨w.heap.size, 3, none⟩ (.string { data := #[] })).setCell ⟨w.heap.size, 4, none⟩ (.slice none 0 0)).setCell ⟨w.heap.size, 5, none⟩ (.string { data := #[] })) :=
  below_read (k := 0) (n := 0) (en := 0) (vs := ByteArray.empty) (bs := .slice none 0 0) (sc := ByteArray.empty) h
theorem cells_read {w w3 : World} {t : T} {cs : List Value} {o : Obj} {k : UInt8} {n en : Nat} {vs sc : ByteArray} {bs : Value} (h : SCells w3 (fun j => w.heap.size < j) t cs) : SCells (setSix (w3.alloc o) w.heap.size k n en vs bs sc) (fun j => w.heap.size ≤ j) t cs :=
  (h.keep (fun j hj hl => by rw [setSix_far (by omega), (World.grownBy_alloc w3 o none).block j hl (by simp)])).mono (fun j hj => by omega)
theorem below_of {w W : World} (h : w.grownBy W none) : Below w.heap.size w W := ⟨h.os, h.tape, h.output, h.size, fun j hj => h.block j hj (by simp)⟩
set_option maxHeartbeats 800000 in
set_option maxRecDepth 1000000 in
theorem read_none (p : ByteArray) (w : World) (hp : p.size ≤ 1048576) (h : p.size = 0 ∨ bAt p 0 ≠ 123 ∨ 80 < p.size) : Calls Try.prog 40 #[.string p] w (ReadPost p w) := by
  have HS := Lib.hid (show SParse p = none by unfold SParse; rw [if_pos h])
  have hZ : SNode (w.alloc (.cells #[.int .u8 0, .int .i64 0, .int .i64 0, .string { data := #[] }, .slice none 0 0, .string { data := #[] }] 46)) w.heap.size 0 0 0 ByteArray.empty (.slice none 0 0) ByteArray.empty := heap_alloc_new w _
  by_cases h0 : p.size = 0
  · have he : p.toList.isEmpty = true := by rw [empty_size]; simpa using h0
    clear h h0
    go_enter Try.func40, Try.ntmps40
    go_wp2_with fail
    exact bodyPost_ret_by (ret40 rfl rfl hZ) rfl ⟨below_of (World.grownBy_alloc w _ none), .inl ⟨HS.out, rfl⟩⟩
  · have he : p.toList.isEmpty = false := by rw [empty_size]; simpa using h0
    have h1 : 0 < p.size := by omega
    have g1 : (0 : Int) < (p.size : Int) := by omega
    by_cases h2 : bAt p 0 = 123
    · have h3 : 80 < p.size := by
        rcases h with h | h | h
        · exact absurd h h0
        · exact absurd h2 h
        · exact h
      have g2 : (((p[0]'h1).toNat : Int) != 123) = false := by rw [bAt_get h1, h2]; rfl
      have g3 : decide ((80 : Int) < (p.size : Int)) = true := by simp; omega
      clear h h0 h2
      go_enter Try.func40, Try.ntmps40
      go_wp2_with fail
      exact bodyPost_ret_by (ret40 rfl rfl hZ) rfl ⟨below_of (World.grownBy_alloc w _ none), .inl ⟨HS.out, rfl⟩⟩
    · have g2 : (((p[0]'h1).toNat : Int) != 123) = true := by
        rw [bAt_get h1, bne]
        rw [byte_ne (show (123 : UInt8).toNat = (123 : Int) from rfl) h2]
        rfl
      clear h h0 h2
      go_enter Try.func40, Try.ntmps40
      go_wp2_with fail
      exact bodyPost_ret_by (ret40 rfl rfl hZ) rfl ⟨below_of (World.grownBy_alloc w _ none), .inl ⟨HS.out, rfl⟩⟩

set_option maxHeartbeats 1600000 in
set_option maxRecDepth 1000000 in
theorem read_some (p : ByteArray) (w : World) (h : ¬ (p.size = 0 ∨ bAt p 0 ≠ 123 ∨ 80 < p.size)) (hS : SStepC p 0) : Calls Try.prog 40 #[.string p] w (ReadPost p w) := by
  have HS := Lib.hid (show SParse p = (if (SStep p ByteArray.empty ⟨0, false, 0⟩).2.2.2.bad = true ∨ (SStep p ByteArray.empty ⟨0, false, 0⟩).2.2.2.at_ ≠ p.size then none else some ((SStep p ByteArray.empty ⟨0, false, 0⟩).1, (SStep p ByteArray.empty ⟨0, false, 0⟩).2.1, (SStep p ByteArray.empty ⟨0, false, 0⟩).2.2.1)) by unfold SParse; rw [if_neg h])
  have hZ : SNode (w.alloc (.cells #[.int .u8 0, .int .i64 0, .int .i64 0, .string { data := #[] }, .slice none 0 0, .string { data := #[] }] 46)) w.heap.size 0 0 0 ByteArray.empty (.slice none 0 0) ByteArray.empty := heap_alloc_new w _
  have h0 : p.size ≠ 0 := fun e => h (.inl e)
  have h1 : 0 < p.size := by omega
  have h2 : bAt p 0 = 123 := by
    by_cases e : bAt p 0 = 123
    · exact e
    · exact absurd (.inr (.inl e)) h
  have h3 : p.size ≤ 80 := by
    by_cases e : 80 < p.size
    · exact absurd (.inr (.inr e)) h
    · omega
  have he : p.toList.isEmpty = false := by rw [empty_size]; simpa using h0
  have g1 : (0 : Int) < (p.size : Int) := by omega
  have g2 : (((p[0]'h1).toNat : Int) != 123) = false := by rw [bAt_get h1, h2]; rfl
  have g3 : decide ((80 : Int) < (p.size : Int)) = false := by simp; omega
  clear h h0 h2
  go_enter Try.func40, Try.ntmps40
  go_wp2_with fail
  generalize hW2 : ((w.alloc (.cells #[.int .u8 0, .int .i64 0, .int .i64 0, .string { data := #[] }, .slice none 0 0, .string { data := #[] }] 46)).alloc (.cells #[.string p, .int .i64 0, .bool false, .int .i64 0] 72)) = W2
  have hr2 : SRd W2 (w.heap.size + 1) p ⟨0, false, 0⟩ := by rw [← hW2]; exact heap_alloc_next w _ _
  have hZ2 : SNode W2 w.heap.size 0 0 0 ByteArray.empty (.slice none 0 0) ByteArray.empty := by rw [← hW2]; exact heap_alloc_old w _ _
  have hG2 : w.grownBy W2 none := by rw [← hW2]; exact World.grownBy.trans (World.grownBy_alloc w _ _) (World.grownBy_alloc _ _ _)
  clear hW2 hZ
  refine (hS W2 (w.heap.size + 1) ByteArray.empty ⟨0, false, 0⟩ hr2 rfl h1 (Nat.le_refl _) (Nat.le_refl _)).mono ?_
  rintro e w3 ⟨bs, v0, v1, c0, c1, rfl, hr3, hg3, sc0, so0, sc1, so1, hnb, sbs⟩
  obtain ⟨A, mm, cp, rfl⟩ : ∃ A m c, bs = .slice A m c := by
    obtain ⟨A, c, h⟩ := sbs.form
    exact ⟨A, _, c, h⟩
  generalize SStep p ByteArray.empty ⟨0, false, 0⟩ = q at *
  obtain ⟨i, b0, b1, s1⟩ := q
  simp only at *
  have hG3 := hG2.andThen hg3 (fun j hj => by cases hj; exact .inl (by omega))
  have hZ3 := hZ2.grown hg3 (by simp)
  have hz := hr2.lt
  have hcc : SCells w3 (fun j => w.heap.size < j) (.cons i b0 b1 .nil) (six i (.slice A mm cp)) := ⟨_, v0, v1, [], c0, c1, (List.append_nil _).symm, sc0.mono (fun j hj => by omega), so0.mono (fun j hj => by omega), sc1.mono (fun j hj => by omega), so1.mono (fun j hj => by omega), hnb, sbs.mono (fun j hj => by omega), rfl⟩
  have hra : ∀ o, SRd (w3.alloc o) (w.heap.size + 1) p s1 := fun o => hr3.grown (World.grownBy_alloc w3 o none) (by simp)
  have n1 := fun o => (hra o).c1
  have n2 := fun o => (hra o).c2
  have hza : ∀ o, SNode (w3.alloc o) w.heap.size 0 0 0 ByteArray.empty (.slice none 0 0) ByteArray.empty := fun o => hZ3.grown (World.grownBy_alloc w3 o none) (by simp)
  have z0 := fun o => (hza o).c0
  have z1 := fun o => (hza o).c1
  have z2 := fun o => (hza o).c2
  have z3 := fun o => (hza o).c3
  have z4 := fun o => (hza o).c4
  have z5 := fun o => (hza o).c5
  have zf := fun o j => (hza o).fz j
  have XC := Lib.hid hcc
  have XZ := Lib.hid hza
  have XG := Lib.hid hG3
  clear hr2 hZ2 hG2 hg3 sc0 so0 sc1 so1 hnb sbs hcc hra hza hG3 hZ3 g1 g2 g3 he
  cases hb : s1.bad
  · rw [hb] at n2
    by_cases ha : s1.at_ = p.size
    · have g4 : ((s1.at_ : Int) != (p.size : Int)) = false := by simp; omega
      have HS' := Lib.hid (HS.out.trans (by rw [if_neg (by simp [hb, ha])]))
      clear hb ha HS
      go_wp2_with fail
      exact bodyPost_ret_by (ret40 rfl rfl (SNode.setSix (XZ.out _))) rfl ⟨below_read XG.out, .inr ⟨i, b0, b1, _, HS'.out, rfl, cells_read XC.out⟩⟩
    · have g4 : ((s1.at_ : Int) != (p.size : Int)) = true := by simp; omega
      have HS' := Lib.hid (HS.out.trans (by rw [if_pos (.inr ha)]))
      clear hb ha HS
      go_wp2_with fail
      exact bodyPost_ret_by (ret40 rfl rfl (zero_six (XZ.out _))) rfl ⟨below_zero XG.out, .inl ⟨HS'.out, rfl⟩⟩
  · rw [hb] at n2
    have HS' := Lib.hid (HS.out.trans (by rw [if_pos (.inl hb)]))
    clear hb HS
    go_wp2_with fail
    exact bodyPost_ret_by (ret40 rfl rfl (zero_six (XZ.out _))) rfl ⟨below_zero XG.out, .inl ⟨HS'.out, rfl⟩⟩
end Go.Proofs.Ytopgkaekbbaglaa
