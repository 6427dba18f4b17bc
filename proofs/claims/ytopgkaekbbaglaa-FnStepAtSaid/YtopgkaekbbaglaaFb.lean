/- The step that begins at a byte: the reference's function. -/
import Derived.Test.YtopgkaekbbaglaaFa
namespace Go.Proofs.Ytopgkaekbbaglaa
open Go.RowKit Pl

/-- what the reference's search for the step at a byte leaves -/
def AtPost (p : ByteArray) (a : Int) (w : World) (e : Ending) (w' : World) : Prop := Below w.heap.size w w' ∧
  ((FindAt p a = none ∧ e = .returned (.tuple #[zeroSix, .bool false])) ∨
   ∃ i A n c, FindAt p a = some i ∧ e = .returned (.tuple #[.agg #[.int .u8 i.kind.toNat, .int .i64 i.at_, .int .i64 i.end_, .string i.vars, .slice A n c, .string i.scope], .bool true]))
theorem results48 : Try.f48.results = #[ResultVar.cell 4 46, ResultVar.tmp 5] := by kernel_rfl
theorem ret48 {w : World} {r : Nat} {k : UInt8} {n en : Nat} {vs sc : ByteArray} {bs x : Value} {tmps : Array Value} (ht : tmps[4]?.getD undef = .pointer (some ⟨r, 0, none⟩)) (hx : tmps[5]?.getD undef = x) (h : SNode w r k n en vs bs sc) :
    (results Try.f48 tmps).run Try.prog w = .ok (.tuple #[.agg #[.int .u8 k.toNat, .int .i64 n, .int .i64 en, .string vs, bs, .string sc], x]) w := by
  unfold results
  rw [results48]
  have hl := loadVar46 h
  simp [ht, hx, asAddr, hl]
theorem gb_of_below {w w' : World} (h : Below w.heap.size w w') : w.grownBy w' none := ⟨h.os, h.tape, h.output, h.size, fun k hk _ => h.block k hk⟩
theorem find_none {p : ByteArray} {a : Int} (h : IParse p = none) : FindAt p a = none := by unfold FindAt; rw [flat_none h]; rfl
theorem below_six {w w3 : World} {k : UInt8} {n en : Nat} {vs sc : ByteArray} {bs : Value} (h : w.grownBy w3 none) : Below w.heap.size w (setSix w3 w.heap.size k n en vs bs sc) := by
  have a := h.andThen (setSix_grown (r := w.heap.size) (k := k) (n := n) (en := en) (vs := vs) (bs := bs) (sc := sc) w3) (fun j hj => by cases hj; exact .inl (Nat.le_refl _))
  exact ⟨a.os, a.tape, a.output, a.size, fun j hj => a.block j hj (by simp)⟩
theorem below_zero0 {w w3 : World} (h : w.grownBy w3 none) : Below w.heap.size w ((((((w3.setCell ⟨w.heap.size, 0, none⟩ (.int .u8 0)).setCell ⟨w.heap.size, 1, none⟩ (.int .i64 0)).setCell ⟨w.heap.size, 2, none⟩ (.int .i64 0)).setCell ⟨w.heap.size, 3, none⟩ (.string { data := #[] })).setCell ⟨w.heap.size, 4, none⟩ (.slice none 0 0)).setCell ⟨w.heap.size, 5, none⟩ (.string { data := #[] })) :=
  below_six (k := 0) (n := 0) (en := 0) (vs := ByteArray.empty) (bs := .slice none 0 0) (sc := ByteArray.empty) h
/-- what the rounds keep: all that was there when the list was made; the result's own cells stand below it -/
def AtRel (p : ByteArray) (a : Int) (L : List Inf) (w3 : World) (i' : Value) (wr : World) : Prop :=
  ∃ k : Nat, k ≤ L.length ∧ i' = .int .i64 k ∧ FindAt p a = (L.drop k).find? (fun i => (i.at_ : Int) == a) ∧ Below w3.heap.size w3 wr
set_option maxHeartbeats 1600000 in
set_option maxRecDepth 1000000 in
theorem at_any (p : ByteArray) (a : Int) (w : World) (hp : p.size ≤ 1048576) : Calls Try.prog 48 #[.string p, .int .i64 a] w (AtPost p a w) := by
  go_enter Try.func48, Try.ntmps48
  go_wp2_with fail
  generalize hW0 : w.alloc (.cells #[.int .u8 0, .int .i64 0, .int .i64 0, .string { data := #[] }, .slice none 0 0, .string { data := #[] }] 46) = W0
  have hZ0 : SNode W0 w.heap.size 0 0 0 ByteArray.empty (.slice none 0 0) ByteArray.empty := by rw [← hW0]; exact heap_alloc_new w _
  have hB0 : Below w.heap.size w W0 := by rw [← hW0]; exact below_of (World.grownBy_alloc w _ none)
  clear hW0
  refine (read_any p W0 hp).mono ?_
  rintro e w1 ⟨hb, h⟩
  have hZ1 := hZ0.below hb
  have hB1 := hB0.trans (hb.mono hB0.size)
  rcases h with ⟨hs, rfl⟩ | ⟨i, b0, b1, bs, hs, rfl, hc⟩
  · have HF := Lib.hid (find_none (a := a) (show IParse p = none by rw [← parse_eq]; exact hs))
    have hza : ∀ o, SNode (w1.alloc o) w.heap.size 0 0 0 ByteArray.empty (.slice none 0 0) ByteArray.empty := fun o => hZ1.grown (World.grownBy_alloc w1 o none) (by simp)
    have z0 := fun o => (hza o).c0
    have z1 := fun o => (hza o).c1
    have z2 := fun o => (hza o).c2
    have z3 := fun o => (hza o).c3
    have z4 := fun o => (hza o).c4
    have z5 := fun o => (hza o).c5
    have zf := fun o j => (hza o).fz j
    have XZ := Lib.hid hza
    have XB := Lib.hid (gb_of_below hB1)
    clear hs hb hZ0 hB0 hZ1 hB1 hza
    unfold zeroSix
    go_wp2_with fail
    exact bodyPost_ret_by (ret48 rfl rfl (zero_six (XZ.out _))) rfl ⟨below_zero XB.out, .inl ⟨HF.out, rfl⟩⟩
  · obtain ⟨A, c, rfl, hI, hm, hba, hca⟩ := read_parts hb hs hc
    have HE := Lib.hid (fun o => each_any _ i b0 b1 (by omega) (Nat.le_refl _) (w1.alloc o) (fun j => j < w1.heap.size) A c (fun j hj => by simp; omega) (hca o))
    have hza : ∀ o, SNode (w1.alloc o) w.heap.size 0 0 0 ByteArray.empty (.slice none 0 0) ByteArray.empty := fun o => hZ1.grown (World.grownBy_alloc w1 o none) (by simp)
    have XZ := Lib.hid hza
    have XB := Lib.hid (fun o => hB1.trans ((below_of (World.grownBy_alloc w1 o none)).mono hB1.size))
    have HL := Lib.hid (show FindAt p a = (T.cons i b0 b1 .nil).flat.find? (fun i => (i.at_ : Int) == a) by unfold FindAt; rw [flat_some hI])
    have hle : (T.cons i b0 b1 .nil).flat.length ≤ 80 := Nat.le_trans (flat_count _) hm
    clear hs hc hb hZ0 hB0 hZ1 hB1 hza hba hca hI
    generalize (T.cons i b0 b1 .nil).flat = L at *
    go_wp2_with fail
    refine (HE.out _).mono ?_
    rintro e w3 ⟨v, xs, rfl, hb3, hO3, hN3⟩
    have hZ3 := (XZ.out (.cells #[.int .u8 i.kind.toNat, .int .i64 i.at_, .int .i64 i.end_, .string i.vars, .slice A i.nb c, .string i.scope] 46)).below hb3
    have hB3 := (XB.out (.cells #[.int .u8 i.kind.toNat, .int .i64 i.at_, .int .i64 i.end_, .string i.vars, .slice A i.nb c, .string i.scope] 46)).trans (hb3.mono (XB.out _).size)
    obtain ⟨B, d, rfl⟩ := hO3.form
    have X3 := Lib.hid hZ3
    have X4 := Lib.hid hB3
    have X5 := Lib.hid hO3
    have X6 := Lib.hid hN3
    clear hb3 hZ3 hB3 hO3 hN3
    go_wp2_with fail
    go_loopw [21] (fun i' wr => AtRel p a L w3 i' wr) (fun i' _ => L.length - (intOf i').toNat)
    case atStart => exact ⟨0, Nat.zero_le _, rfl, by rw [HL.out]; rfl, Below.refl _ _⟩
    case round =>
      obtain ⟨k, hk, rfl, hK, hbr⟩ := hrel
      have HK := Lib.hid hK
      have HB := Lib.hid hbr
      have hza : ∀ o, SNode (wr.alloc o) w.heap.size 0 0 0 ByteArray.empty (.slice none 0 0) ByteArray.empty := fun o => (X3.out.below hbr).grown (World.grownBy_alloc wr o none) (by simp)
      have z0 := fun o => (hza o).c0
      have z1 := fun o => (hza o).c1
      have z2 := fun o => (hza o).c2
      have z3 := fun o => (hza o).c3
      have z4 := fun o => (hza o).c4
      have z5 := fun o => (hza o).c5
      have zf := fun o j => (hza o).fz j
      have XZ2 := Lib.hid hza
      have XG := Lib.hid (gb_of_below (X4.out.trans (hbr.mono X4.out.size)))
      by_cases hlt : k < L.length
      · obtain ⟨A2, n2, c2, h6⟩ := X6.out.at hlt
        obtain ⟨gb, rfl⟩ : ∃ gb, B = some ⟨gb, 0, none⟩ := by
          obtain ⟨g, c', hv⟩ := X5.out.some (by omega)
          injection hv with hv1 hv2 hv3
          exact ⟨g, hv1⟩
        have hs := (six_of X5.out.row hlt h6).below hbr
        obtain ⟨s0, s1, s2, s3, s4, s5⟩ := hs
        have hkk : k ≤ 80 := by omega
        clear hK hbr hza h6
        by_cases hq : ((L[k].at_ : Int) == a) = true
        · have HQ := Lib.hid (find_hit hlt hq)
          go_wp2_with fail
          exact bodyPost_ret_by (ret48 rfl rfl (SNode.setSix (XZ2.out _))) rfl ⟨below_read XG.out, .inr ⟨L[k], A2, n2, c2, by rw [HK.out]; exact HQ.out, rfl⟩⟩
        · have hq' : ((L[k].at_ : Int) == a) = false := by simpa using hq
          have HQ := Lib.hid (find_step hlt hq')
          clear hq
          go_wp2_with fail
          go_roundw
          case rel => exact ⟨k + 1, hlt, by go_num, by rw [HK.out]; exact HQ.out, HB.out.trans ((below_of (World.grownBy_alloc wr _ none)).mono HB.out.size)⟩
          case measure => simp [intOf]; omega
      · have hkn : k = L.length := by omega
        subst hkn
        clear hK hbr hza
        have hzb := X3.out.below HB.out
        have y0 := hzb.c0
        have y1 := hzb.c1
        have y2 := hzb.c2
        have y3 := hzb.c3
        have y4 := hzb.c4
        have y5 := hzb.c5
        have yf := fun j => hzb.fz j
        have YZ := Lib.hid hzb
        clear hzb z0 z1 z2 z3 z4 z5 zf
        go_wp2_with fail
        exact bodyPost_ret_by (ret48 rfl rfl (zero_six YZ.out)) rfl ⟨below_zero0 XG.out, .inl ⟨by rw [HK.out, List.drop_length]; rfl, rfl⟩⟩
end Go.Proofs.Ytopgkaekbbaglaa
