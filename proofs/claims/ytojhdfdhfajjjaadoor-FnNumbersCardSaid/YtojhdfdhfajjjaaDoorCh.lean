/- Ch: texts of this proof, joined. -/
import Derived.Test.YtojhdfdhfajjjaaDoorCa
import Derived.Test.YtojhdfdhfajjjaaDoorCb
import Derived.Test.YtojhdfdhfajjjaaDoorCc
import Derived.Test.YtojhdfdhfajjjaaDoorCd
import Derived.Test.YtojhdfdhfajjjaaDoorCe
import Derived.Test.YtojhdfdhfajjjaaDoorCf
import Derived.Test.YtojhdfdhfajjjaaDoorCg
import Derived.Laws.OwnMore
import Derived.BigCall
import Derived.BigRegion
namespace Go.Proofs.YtojhdfdhfajjjaaDoor
open Go.RowKit Pl
theorem sstep_all (p : ByteArray) (hp : p.size ≤ 80) : ∀ d n, p.size - n ≤ d → SStepC p n := by
  intro d
  induction d with
  | zero => intro n hd w b ar s hr hsn hn; omega
  | succ d ih =>
    intro n hd w b ar s hr hsn hn har hdep
    have hB : ∀ m, n < m → SBodyC p m := fun m hm => sbody_any p m hp (fun m' hm' => ih m' (by omega))
    show SStepP p w b ar s
    by_cases c0 : bAt p s.at_ = 43
    · exact sstep_var p n hp hB w b ar s hr hsn hn har hdep (.inl c0)
    by_cases c1 : bAt p s.at_ = 45
    · exact sstep_var p n hp hB w b ar s hr hsn hn har hdep (.inr (.inl c1))
    by_cases c2 : bAt p s.at_ = 46
    · exact sstep_var p n hp hB w b ar s hr hsn hn har hdep (.inr (.inr (.inl c2)))
    by_cases c3 : bAt p s.at_ = 126
    · exact sstep_var p n hp hB w b ar s hr hsn hn har hdep (.inr (.inr (.inr c3)))
    by_cases c4 : bAt p s.at_ = 61
    · exact sstep_two p n hp hB w b ar s hr hsn hn har hdep c4
    by_cases c5 : bAt p s.at_ = 94
    · exact sstep_one p n hp hB w b ar s hr hsn hn har hdep (.inl c5)
    by_cases c6 : bAt p s.at_ = 33
    · exact sstep_one p n hp hB w b ar s hr hsn hn har hdep (.inr c6)
    by_cases c7 : bAt p s.at_ = 63
    · exact sstep_quest p n hp hB w b ar s hr hsn hn har hdep c7
    by_cases c8 : bAt p s.at_ = 42
    · exact sstep_star p n hp hB w b ar s hr hsn hn har hdep c8
    by_cases c9 : bAt p s.at_ = 123
    · exact sstep_scope p n hp hB w b ar s hr hsn hn har hdep c9
    exact sstep_no p n hp hB w b ar s hr hsn hn har hdep ⟨c0, c1, c2, c3, c4, c5, c6, c7, c8, c9⟩
end Go.Proofs.YtojhdfdhfajjjaaDoor
namespace Go.Proofs.YtojhdfdhfajjjaaDoor
open Go.RowKit Pl
def zeroSix : Value := .agg #[.int .u8 0, .int .i64 0, .int .i64 0, .string ByteArray.empty, .slice none 0 0, .string ByteArray.empty]
def ReadPost (p : ByteArray) (w : World) (e : Ending) (w' : World) : Prop := Below w.heap.size w w' ∧
  ((SParse p = none ∧ e = .returned (.tuple #[zeroSix, .bool false])) ∨
   ∃ i b0 b1 bs, SParse p = some (i, b0, b1) ∧ e = .returned (.tuple #[.agg #[.int .u8 i.kind.toNat, .int .i64 i.at_, .int .i64 i.end_, .string i.vars, bs, .string i.scope], .bool true]) ∧
     SCells w' (fun j => w.heap.size ≤ j) (.cons i b0 b1 .nil) (six i bs))
theorem results40 : Tryd.f40.results = #[ResultVar.cell 2 82, ResultVar.tmp 3] := by kernel_rfl
theorem ret40 {w : World} {r : Nat} {k : UInt8} {n en : Nat} {vs sc : ByteArray} {bs x : Value} {tmps : Array Value} (ht : tmps[2]?.getD undef = .pointer (some ⟨r, 0, none⟩)) (hx : tmps[3]?.getD undef = x) (h : SNode w r k n en vs bs sc) :
    (results Tryd.f40 tmps).run Tryd.prog w = .ok (.tuple #[.agg #[.int .u8 k.toNat, .int .i64 n, .int .i64 en, .string vs, bs, .string sc], x]) w := by
  unfold results
  rw [results40]
  have hl := loadVar46 h
  simp [ht, hx, asAddr, hl]
theorem below_read {w w3 : World} {o : Obj} {k : UInt8} {n en : Nat} {vs sc : ByteArray} {bs : Value} (h : w.grownBy w3 none) : Below w.heap.size w (setSix (w3.alloc o) w.heap.size k n en vs bs sc) := by
  have a := (World.grownBy.trans h (World.grownBy_alloc w3 o none)).andThen (setSix_grown (r := w.heap.size) (k := k) (n := n) (en := en) (vs := vs) (bs := bs) (sc := sc) _) (fun j hj => by cases hj; exact .inl (Nat.le_refl _))
  exact ⟨a.os, a.tape, a.output, a.size, fun j hj => a.block j hj (by simp)⟩
theorem zero_six {w : World} {r : Nat} (h : SNode w r 0 0 0 ByteArray.empty (.slice none 0 0) ByteArray.empty) : SNode ((((((w.setCell ⟨r, 0, none⟩ (.int .u8 0)).setCell ⟨r, 1, none⟩ (.int .i64 0)).setCell ⟨r, 2, none⟩ (.int .i64 0)).setCell ⟨r, 3, none⟩ (.string { data := #[] })).setCell ⟨r, 4, none⟩ (.slice none 0 0)).setCell ⟨r, 5, none⟩ (.string { data := #[] })) r 0 0 0 ByteArray.empty (.slice none 0 0) ByteArray.empty :=
  SNode.setSix (k' := 0) (n' := 0) (en' := 0) (vs' := ByteArray.empty) (bs' := .slice none 0 0) (sc' := ByteArray.empty) h
theorem below_zero {w w3 : World} {o : Obj} (h : w.grownBy w3 none) : Below w.heap.size w (((((((w3.alloc o).setCell ⟨w.heap.size, 0, none⟩ (.int .u8 0)).setCell ⟨w.heap.size, 1, none⟩ (.int .i64 0)).setCell ⟨w.heap.size, 2, none⟩ (.int .i64 0)).setCell ⟨w.heap.size, 3, none⟩ (.string { data := #[] })).setCell ⟨w.heap.size, 4, none⟩ (.slice none 0 0)).setCell ⟨w.heap.size, 5, none⟩ (.string { data := #[] })) :=
  below_read (k := 0) (n := 0) (en := 0) (vs := ByteArray.empty) (bs := .slice none 0 0) (sc := ByteArray.empty) h
theorem cells_read {w w3 : World} {t : T} {cs : List Value} {o : Obj} {k : UInt8} {n en : Nat} {vs sc : ByteArray} {bs : Value} (h : SCells w3 (fun j => w.heap.size < j) t cs) : SCells (setSix (w3.alloc o) w.heap.size k n en vs bs sc) (fun j => w.heap.size ≤ j) t cs :=
  (h.keep (fun j hj hl => by rw [setSix_far (by omega), (World.grownBy_alloc w3 o none).block j hl (by simp)])).mono (fun j hj => by omega)
theorem below_of {w W : World} (h : w.grownBy W none) : Below w.heap.size w W := ⟨h.os, h.tape, h.output, h.size, fun j hj => h.block j hj (by simp)⟩
set_option maxHeartbeats 800000 in
set_option maxRecDepth 1000000 in
theorem read_none (p : ByteArray) (w : World) (hp : p.size ≤ 1048576) (h : p.size = 0 ∨ bAt p 0 ≠ 123 ∨ 80 < p.size) : Calls Tryd.prog 40 #[.string p] w (ReadPost p w) := by
  have HS := Lib.hid (show SParse p = none by unfold SParse; rw [if_pos h])
  have hZ : SNode (w.alloc (.cells #[.int .u8 0, .int .i64 0, .int .i64 0, .string { data := #[] }, .slice none 0 0, .string { data := #[] }] 82)) w.heap.size 0 0 0 ByteArray.empty (.slice none 0 0) ByteArray.empty := heap_alloc_new w _
  by_cases h0 : p.size = 0
  · have he : p.toList.isEmpty = true := by rw [empty_size]; simpa using h0
    clear h h0
    go_enter Tryd.func40, Tryd.ntmps40
    go_wp2_with fail
    exact bodyPost_ret_by (ret40 rfl rfl hZ) rfl ⟨below_of (World.grownBy_alloc w _ none), .inl ⟨HS.out, rfl⟩⟩
  · have he : p.toList.isEmpty = false := by rw [empty_size]; simpa using h0
    have h1 : 0 < p.size := by omega
    have g1 : (0 : Int) < (p.size : Int) := by omega
    by_cases h2 : bAt p 0 = 123
    · have h3 : 80 < p.size := by
        rcases h with h | h | h
        · exact absurd h h0
        · exact absurd h2 h
        · exact h
      have g2 : (((p[0]'h1).toNat : Int) != 123) = false := by rw [bAt_get h1, h2]; rfl
      have g3 : decide ((80 : Int) < (p.size : Int)) = true := by simp; omega
      clear h h0 h2
      go_enter Tryd.func40, Tryd.ntmps40
      go_wp2_with fail
      exact bodyPost_ret_by (ret40 rfl rfl hZ) rfl ⟨below_of (World.grownBy_alloc w _ none), .inl ⟨HS.out, rfl⟩⟩
    · have g2 : (((p[0]'h1).toNat : Int) != 123) = true := by
        rw [bAt_get h1, bne]
        rw [byte_ne (show (123 : UInt8).toNat = (123 : Int) from rfl) h2]
        rfl
      clear h h0 h2
      go_enter Tryd.func40, Tryd.ntmps40
      go_wp2_with fail
      exact bodyPost_ret_by (ret40 rfl rfl hZ) rfl ⟨below_of (World.grownBy_alloc w _ none), .inl ⟨HS.out, rfl⟩⟩
set_option maxHeartbeats 1600000 in
set_option maxRecDepth 1000000 in
theorem read_some (p : ByteArray) (w : World) (h : ¬ (p.size = 0 ∨ bAt p 0 ≠ 123 ∨ 80 < p.size)) (hS : SStepC p 0) : Calls Tryd.prog 40 #[.string p] w (ReadPost p w) := by
  have HS := Lib.hid (show SParse p = (if (SStep p ByteArray.empty ⟨0, false, 0⟩).2.2.2.bad = true ∨ (SStep p ByteArray.empty ⟨0, false, 0⟩).2.2.2.at_ ≠ p.size then none else some ((SStep p ByteArray.empty ⟨0, false, 0⟩).1, (SStep p ByteArray.empty ⟨0, false, 0⟩).2.1, (SStep p ByteArray.empty ⟨0, false, 0⟩).2.2.1)) by unfold SParse; rw [if_neg h])
  have hZ : SNode (w.alloc (.cells #[.int .u8 0, .int .i64 0, .int .i64 0, .string { data := #[] }, .slice none 0 0, .string { data := #[] }] 82)) w.heap.size 0 0 0 ByteArray.empty (.slice none 0 0) ByteArray.empty := heap_alloc_new w _
  have h0 : p.size ≠ 0 := fun e => h (.inl e)
  have h1 : 0 < p.size := by omega
  have h2 : bAt p 0 = 123 := by
    by_cases e : bAt p 0 = 123
    · exact e
    · exact absurd (.inr (.inl e)) h
  have h3 : p.size ≤ 80 := by
    by_cases e : 80 < p.size
    · exact absurd (.inr (.inr e)) h
    · omega
  have he : p.toList.isEmpty = false := by rw [empty_size]; simpa using h0
  have g1 : (0 : Int) < (p.size : Int) := by omega
  have g2 : (((p[0]'h1).toNat : Int) != 123) = false := by rw [bAt_get h1, h2]; rfl
  have g3 : decide ((80 : Int) < (p.size : Int)) = false := by simp; omega
  clear h h0 h2
  go_enter Tryd.func40, Tryd.ntmps40
  go_wp2_with fail
  generalize hW2 : ((w.alloc (.cells #[.int .u8 0, .int .i64 0, .int .i64 0, .string { data := #[] }, .slice none 0 0, .string { data := #[] }] 82)).alloc (.cells #[.string p, .int .i64 0, .bool false, .int .i64 0] 96)) = W2
  have hr2 : SRd W2 (w.heap.size + 1) p ⟨0, false, 0⟩ := by rw [← hW2]; exact heap_alloc_next w _ _
  have hZ2 : SNode W2 w.heap.size 0 0 0 ByteArray.empty (.slice none 0 0) ByteArray.empty := by rw [← hW2]; exact heap_alloc_old w _ _
  have hG2 : w.grownBy W2 none := by rw [← hW2]; exact World.grownBy.trans (World.grownBy_alloc w _ _) (World.grownBy_alloc _ _ _)
  clear hW2 hZ
  refine (hS W2 (w.heap.size + 1) ByteArray.empty ⟨0, false, 0⟩ hr2 rfl h1 (Nat.le_refl _) (Nat.le_refl _)).mono ?_
  rintro e w3 ⟨bs, v0, v1, c0, c1, rfl, hr3, hg3, sc0, so0, sc1, so1, hnb, sbs⟩
  obtain ⟨A, mm, cp, rfl⟩ : ∃ A m c, bs = .slice A m c := by
    obtain ⟨A, c, h⟩ := sbs.form
    exact ⟨A, _, c, h⟩
  generalize SStep p ByteArray.empty ⟨0, false, 0⟩ = q at *
  obtain ⟨i, b0, b1, s1⟩ := q
  simp only at *
  have hG3 := hG2.andThen hg3 (fun j hj => by cases hj; exact .inl (by omega))
  have hZ3 := hZ2.grown hg3 (by simp)
  have hz := hr2.lt
  have hcc : SCells w3 (fun j => w.heap.size < j) (.cons i b0 b1 .nil) (six i (.slice A mm cp)) := ⟨_, v0, v1, [], c0, c1, (List.append_nil _).symm, sc0.mono (fun j hj => by omega), so0.mono (fun j hj => by omega), sc1.mono (fun j hj => by omega), so1.mono (fun j hj => by omega), hnb, sbs.mono (fun j hj => by omega), rfl⟩
  have hra : ∀ o, SRd (w3.alloc o) (w.heap.size + 1) p s1 := fun o => hr3.grown (World.grownBy_alloc w3 o none) (by simp)
  have n1 := fun o => (hra o).c1
  have n2 := fun o => (hra o).c2
  have hza : ∀ o, SNode (w3.alloc o) w.heap.size 0 0 0 ByteArray.empty (.slice none 0 0) ByteArray.empty := fun o => hZ3.grown (World.grownBy_alloc w3 o none) (by simp)
  have z0 := fun o => (hza o).c0
  have z1 := fun o => (hza o).c1
  have z2 := fun o => (hza o).c2
  have z3 := fun o => (hza o).c3
  have z4 := fun o => (hza o).c4
  have z5 := fun o => (hza o).c5
  have zf := fun o j => (hza o).fz j
  have XC := Lib.hid hcc
  have XZ := Lib.hid hza
  have XG := Lib.hid hG3
  clear hr2 hZ2 hG2 hg3 sc0 so0 sc1 so1 hnb sbs hcc hra hza hG3 hZ3 g1 g2 g3 he
  cases hb : s1.bad
  · rw [hb] at n2
    by_cases ha : s1.at_ = p.size
    · have g4 : ((s1.at_ : Int) != (p.size : Int)) = false := by simp; omega
      have HS' := Lib.hid (HS.out.trans (by rw [if_neg (by simp [hb, ha])]))
      clear hb ha HS
      go_wp2_with fail
      exact bodyPost_ret_by (ret40 rfl rfl (SNode.setSix (XZ.out _))) rfl ⟨below_read XG.out, .inr ⟨i, b0, b1, _, HS'.out, rfl, cells_read XC.out⟩⟩
    · have g4 : ((s1.at_ : Int) != (p.size : Int)) = true := by simp; omega
      have HS' := Lib.hid (HS.out.trans (by rw [if_pos (.inr ha)]))
      clear hb ha HS
      go_wp2_with fail
      exact bodyPost_ret_by (ret40 rfl rfl (zero_six (XZ.out _))) rfl ⟨below_zero XG.out, .inl ⟨HS'.out, rfl⟩⟩
  · rw [hb] at n2
    have HS' := Lib.hid (HS.out.trans (by rw [if_pos (.inl hb)]))
    clear hb HS
    go_wp2_with fail
    exact bodyPost_ret_by (ret40 rfl rfl (zero_six (XZ.out _))) rfl ⟨below_zero XG.out, .inl ⟨HS'.out, rfl⟩⟩
end Go.Proofs.YtojhdfdhfajjjaaDoor
namespace Go.Proofs.YtojhdfdhfajjjaaDoor
open Go.RowKit Pl
theorem read_any (p : ByteArray) (w : World) (hp : p.size ≤ 1048576) : Calls Tryd.prog 40 #[.string p] w (ReadPost p w) := by
  by_cases h : p.size = 0 ∨ bAt p 0 ≠ 123 ∨ 80 < p.size
  · exact read_none p w hp h
  · exact read_some p w h (sstep_all p (by omega) _ 0 (Nat.le_refl _))
theorem scells_form {w : World} {ok : Nat → Prop} {i : Inf} {b0 b1 r : T} {bs : Value} {cs : List Value} (h : SCells w ok (.cons i b0 b1 r) (six i bs ++ cs)) : ∃ A m c, bs = .slice A m c := by
  obtain ⟨bs', v0, v1, rest, c0, c1, e, h0, o0, h1, o1, hn, ob, hr⟩ := h
  obtain ⟨A, c, hf⟩ := ob.form
  have : bs = bs' := by
    simp [six] at e
    exact e.1
  exact ⟨A, _, c, this.trans hf⟩
set_option maxHeartbeats 800000 in
set_option maxRecDepth 1000000 in
theorem svalid_any (p : ByteArray) (w : World) (hp : p.size ≤ 1048576) : Calls Tryd.prog 34 #[.string p] w fun e w' => e = .returned (.bool (SParse p).isSome) ∧ Below w.heap.size w w' := by
  go_enter Tryd.func34, Tryd.ntmps34
  go_wp2_with fail
  refine (read_any p w hp).mono ?_
  rintro e w1 ⟨hb, h⟩
  rcases h with ⟨hs, rfl⟩ | ⟨i, b0, b1, bs, hs, rfl, hc⟩
  · have HS := Lib.hid hs
    have HB := Lib.hid hb
    clear hs hb
    unfold zeroSix
    go_wp2_with fail
    go_ret
    exact ⟨by rw [HS.out]; rfl, HB.out.trans (below_of (World.grownBy_alloc w1 _ none) |>.mono HB.out.size)⟩
  · obtain ⟨A, mm, cp, rfl⟩ := scells_form (cs := []) (by rw [List.append_nil]; exact hc)
    have HS := Lib.hid hs
    have HB := Lib.hid hb
    clear hs hb hc
    go_wp2_with fail
    go_ret
    exact ⟨by rw [HS.out]; rfl, HB.out.trans (below_of (World.grownBy_alloc w1 _ none) |>.mono HB.out.size)⟩
end Go.Proofs.YtojhdfdhfajjjaaDoor
namespace Go.Proofs.YtojhdfdhfajjjaaDoor
open Go.RowKit Pl
theorem Own.at {w : World} {ok : Nat → Prop} {e : TypeId} {A : Option Addr} {n c : Nat} {xs : List Value} (h : Own w ok e (.slice A n c) xs) (hn : n = xs.length) {k : Nat} (hk : k < n) :
    ∃ g, A = some ⟨g, 0, none⟩ ∧ w.cell? ⟨g, k, none⟩ = xs[k]? := by
  subst hn
  rcases h.row.2 with ⟨hv, hn⟩ | ⟨g, cap, cur, hv, _⟩
  · omega
  · injection hv with h1 h2 h3
    subst h1
    have hr := h.row
    exact ⟨g, rfl, hr.cellAt k (by omega)⟩
end Go.Proofs.YtojhdfdhfajjjaaDoor
namespace Go.Proofs.YtojhdfdhfajjjaaDoor
open Go.RowKit Pl
theorem six_length (i : Inf) (bs : Value) : (six i bs).length = 6 := rfl
theorem sbody_at {w : World} {ok : Nat → Prop} {i : Inf} {b0 b1 : T} {A : Option Addr} {c : Nat} {v0 v1 : Value} {c0 c1 : List Value} (h0 : SCells w ok b0 c0) (o0 : Own6 w ok v0 b0.len c0) (h1 : SCells w ok b1 c1) (o1 : Own6 w ok v1 b1.len c1)
    (hn : i.nb ≤ 2) (ob : Own w ok 86 (.slice A i.nb c) ([v0, v1].take i.nb)) {j : Nat} (hj : j < i.nb) :
    ∃ g B d cs, A = some ⟨g, 0, none⟩ ∧ w.cell? ⟨g, j, none⟩ = some (.slice B (if j = 0 then b0 else b1).len d) ∧ SCells w ok (if j = 0 then b0 else b1) cs ∧ Own6 w ok (.slice B (if j = 0 then b0 else b1).len d) (if j = 0 then b0 else b1).len cs ∧ ok g := by
  have hlen : i.nb = ([v0, v1].take i.nb).length := by simp; omega
  obtain ⟨g, hA, hc⟩ := ob.at hlen hj
  have hg : ok g := ob.let_ g (by rw [hA]; rfl)
  obtain ⟨B0, d0, rfl⟩ := o0.form
  obtain ⟨B1, d1, rfl⟩ := o1.form
  match j, hj with
  | 0, hj => exact ⟨g, B0, d0, c0, hA, by rw [hc, List.getElem?_take_of_lt hj]; rfl, h0, o0, hg⟩
  | 1, hj => exact ⟨g, B1, d1, c1, hA, by rw [hc, List.getElem?_take_of_lt hj]; rfl, h1, o1, hg⟩
  | j + 2, hj => omega
def SBodies (w : World) (ok : Nat → Prop) (i : Inf) (b0 b1 : T) (A : Option Addr) (c : Nat) : Prop :=
  ∃ v0 v1 c0 c1, SCells w ok b0 c0 ∧ Own6 w ok v0 b0.len c0 ∧ SCells w ok b1 c1 ∧ Own6 w ok v1 b1.len c1 ∧ i.nb ≤ 2 ∧ Own w ok 86 (.slice A i.nb c) ([v0, v1].take i.nb)
theorem SBodies.at {w : World} {ok : Nat → Prop} {i : Inf} {b0 b1 : T} {A : Option Addr} {c : Nat} (h : SBodies w ok i b0 b1 A c) {j : Nat} (hj : j < i.nb) :
    ∃ g B d cs, A = some ⟨g, 0, none⟩ ∧ w.cell? ⟨g, j, none⟩ = some (.slice B (if j = 0 then b0 else b1).len d) ∧ SCells w ok (if j = 0 then b0 else b1) cs ∧ Own6 w ok (.slice B (if j = 0 then b0 else b1).len d) (if j = 0 then b0 else b1).len cs ∧ ok g := by
  obtain ⟨v0, v1, c0, c1, h0, o0, h1, o1, hn, ob⟩ := h
  exact sbody_at h0 o0 h1 o1 hn ob hj
theorem sstep_parts {w : World} {ok : Nat → Prop} {i : Inf} {b0 b1 : T} {bs : Value} (h : SCells w ok (.cons i b0 b1 .nil) (six i bs)) : ∃ A c, bs = .slice A i.nb c ∧ i.nb ≤ 2 ∧ SBodies w ok i b0 b1 A c := by
  obtain ⟨bs', v0, v1, rest, c0, c1, e, h0, o0, h1, o1, hn, ob, hr⟩ := h
  have hr' : rest = [] := hr
  subst hr'
  rw [List.append_nil] at e
  have hbs : bs = bs' := by
    simp [six] at e
    exact e
  subst hbs
  obtain ⟨A, c, hb⟩ := ob.form
  have hl : ([v0, v1].take i.nb).length = i.nb := by simp; omega
  rw [hl] at hb
  subst hb
  exact ⟨A, c, rfl, hn, v0, v1, c0, c1, h0, o0, h1, o1, hn, ob⟩
theorem scells_nil {w : World} {ok : Nat → Prop} {t : T} (h : SCells w ok t []) : t = .nil := by
  cases t with
  | nil => rfl
  | cons i b0 b1 r =>
    obtain ⟨bs, v0, v1, rest, c0, c1, e, _⟩ := h
    have := congrArg List.length e
    simp [six] at this
theorem scells_cons {w : World} {ok : Nat → Prop} {t : T} {cs : List Value} (h : SCells w ok t cs) (hc : 0 < cs.length) :
    ∃ i b0 b1 r A c, t = .cons i b0 b1 r ∧ cs.take 6 = six i (.slice A i.nb c) ∧ SCells w ok (.cons i b0 b1 .nil) (six i (.slice A i.nb c)) ∧ SCells w ok r (cs.drop 6) := by
  cases t with
  | nil =>
    have : cs = [] := h
    subst this
    simp at hc
  | cons i b0 b1 r =>
    obtain ⟨bs, v0, v1, rest, c0, c1, e, h0, o0, h1, o1, hn, ob, hr⟩ := h
    subst e
    obtain ⟨A, c, hb⟩ := ob.form
    have hl : ([v0, v1].take i.nb).length = i.nb := by simp; omega
    rw [hl] at hb
    subst hb
    exact ⟨i, b0, b1, r, A, c, rfl, List.take_left' (six_length i _), ⟨_, v0, v1, [], c0, c1, (List.append_nil _).symm, h0, o0, h1, o1, hn, ob, rfl⟩, by rw [List.drop_left' (six_length i _)]; exact hr⟩
structure Six (w : World) (g k : Nat) (i : Inf) (bs : Value) : Prop where
  c0 : w.cell? ⟨g, k * 6, none⟩ = some (.int .u8 i.kind.toNat)
  c1 : w.cell? ⟨g, k * 6 + 1, none⟩ = some (.int .i64 i.at_)
  c2 : w.cell? ⟨g, k * 6 + 2, none⟩ = some (.int .i64 i.end_)
  c3 : w.cell? ⟨g, k * 6 + 3, none⟩ = some (.string i.vars)
  c4 : w.cell? ⟨g, k * 6 + 4, none⟩ = some bs
  c5 : w.cell? ⟨g, k * 6 + 5, none⟩ = some (.string i.scope)
def BSl (w : World) (c : Nat) (v : Value) (n : Nat) (xs : Nat → Int) : Prop :=
 n ≤ 2000 ∧ ((n = 0 ∧ v = .slice none 0 0) ∨ ∃ (a : Addr) (cap : Nat), v = .slice (some a) n cap ∧ n ≤ cap ∧ ∀ i, i < n → (a.block ≠ c ∧ a.block < w.heap.size) ∧ w.cell? (a.add i) = some (.int .u8 (xs i)) ∧ 0 ≤ xs i ∧ xs i ≤ 255)
def DRd (w : World) (c : Nat) (v : Value) (n : Nat) (xs : Nat → Int) (q : Nat) : Prop :=
 w.heap[c]? = some (.cells #[v, .int .i64 q] 44 (0, 0)) ∧ BSl w c v n xs
theorem cell_of_block {w w' : World} {g i : Nat} (h : w'.heap[g]? = w.heap[g]?) : w'.cell? ⟨g, i, none⟩ = w.cell? ⟨g, i, none⟩ := by
 simp only [World.cell?, h]
theorem cell_of_addr {w w' : World} {a : Addr} (i : Nat) (h : w'.heap[a.block]? = w.heap[a.block]?) : w'.cell? (a.add i) = w.cell? (a.add i) := by
 apply World.cell?_of_block
 have e : (a.add i).block = a.block := by unfold Addr.add; split <;> rfl
 rw [e]; exact h
theorem BSl.of {w w' : World} {c c' : Nat} {v : Value} {n : Nat} {xs : Nat → Int} (h : BSl w c v n xs) (hs : w.heap.size ≤ w'.heap.size) (hb : ∀ g, g ≠ c → g < w.heap.size → w'.heap[g]? = w.heap[g]? ∧ g ≠ c') : BSl w' c' v n xs := by
 refine ⟨h.1, h.2.imp id ?_⟩
 rintro ⟨a, cap, rfl, hnc, hx⟩
 exact ⟨a, cap, rfl, hnc, fun i hi => by
  obtain ⟨⟨hg, hlt⟩, hx⟩ := hx i hi
  exact ⟨⟨(hb a.block hg hlt).2, by omega⟩, by rw [cell_of_addr i (hb a.block hg hlt).1]; exact hx⟩⟩
section
variable {w w' : World} {c : Nat} {v : Value} {n : Nat} {xs : Nat → Int} {q : Nat}
theorem DRd.c0 (h : DRd w c v n xs q) : w.cell? ⟨c, 0, none⟩ = some v := by simp [World.cell?, show w.heap[c]? = _ from h.1]
theorem DRd.c1 (h : DRd w c v n xs q) : w.cell? ⟨c, 1, none⟩ = some (.int .i64 q) := by simp [World.cell?, show w.heap[c]? = _ from h.1]
theorem DRd.fz (h : DRd w c v n xs q) (i : Nat) : w.frozen? ⟨c, i, none⟩ = false := by simp [World.frozen?, show w.heap[c]? = _ from h.1]
theorem DRd.lt (h : DRd w c v n xs q) : c < w.heap.size := (Array.getElem?_eq_some_iff.1 h.1).1
theorem DRd.grown (h : DRd w c v n xs q) {r : Option Nat} (hg : w.grownBy w' r) (hr : ∀ j, j < w.heap.size → some j ≠ r) : DRd w' c v n xs q :=
 ⟨(hg.block c h.lt (hr c h.lt)).trans h.1, h.2.of hg.size fun g hgc hlt => ⟨hg.block g hlt (hr g hlt), hgc⟩⟩
theorem DRd.drewN (h : DRd w c v n xs q) (k : Nat) : DRd (w.drewN k) c v n xs q := h
theorem DRd.next (h : DRd w c v n xs q) : DRd (w.setCell ⟨c, 1, none⟩ (.int .i64 ((q : Int) + 1))) c v n xs (q + 1) := by
 have h' : w.heap[c]? = _ := h.1
 refine ⟨by simp [World.setCell, Array.getElem?_modify, h'], h.2.of (by simp [World.setCell]) fun g hg hlt => ⟨?_, hg⟩⟩
 exact Below.heap_setCell w _ _ g hg
end
theorem xor_nat (a b : Nat) (ha : a < 4611686018427387904) (hb : b < 4611686018427387904) : bits .xor .i64 (a : Int) (b : Int) = ((a ^^^ b : Nat) : Int) := by
 have hx : a ^^^ b < 2 ^ 62 := Nat.xor_lt_two_pow (by omega) (by omega)
 have h1 : (BitVec.ofInt 64 (a : Int)).toNat = a := by
  rw [BitVec.ofInt_natCast, BitVec.toNat_ofNat]; exact Nat.mod_eq_of_lt (by omega)
 have h2 : (BitVec.ofInt 64 (b : Int)).toNat = b := by
  rw [BitVec.ofInt_natCast, BitVec.toNat_ofNat]; exact Nat.mod_eq_of_lt (by omega)
 show IntKind.i64.wrap ((BitVec.ofInt 64 (a : Int) ^^^ BitVec.ofInt 64 (b : Int)).toNat : Int) = _
 rw [BitVec.toNat_xor, h1, h2]
 simp only [IntKind.wrap, IntKind.bits, IntKind.signed]
 simp
 omega
theorem xor_nonneg (x : Int) (h0 : 0 ≤ x) (h1 : x < 4611686018427387904) : 0 ≤ bits .xor .i64 x (x / 64) := by
 obtain ⟨a, rfl⟩ := Int.eq_ofNat_of_zero_le h0
 have h : ((a : Int) / 64) = ((a / 64 : Nat) : Int) := by omega
 rw [h, xor_nat a (a / 64) (by omega) (by omega)]
 omega
set_option maxHeartbeats 1000000 in
theorem pick_any (w : World) (c : Nat) (v : Value) (n : Nat) (xs : Nat → Int) (q : Nat) (k : Int) (hd : DRd w c v n xs q) (hq : q ≤ 1000000) (h1 : 1 ≤ k) (h2 : k ≤ 1048576) :
  Calls Tryd.prog 12 #[.pointer (some ⟨c, 0, none⟩), .int .i64 k] w fun e w' => ∃ j : Nat, (j : Int) < k ∧ e = .returned (.int .i64 j) ∧ DRd w' c v n xs (q + 1) ∧ w.grownBy w' (some c) := by
 have c1 := hd.c1
 have hfz := hd.fz 1
 have HS := Lib.hid hd.next
 have HD := Lib.hid hd
 have hk : decide (k < 1) = false := by simp; omega
 have c0 := HS.out.c0
 have c1' : (w.setCell ⟨c, 1, none⟩ (.int .i64 ((q : Int) + 1))).cell? ⟨c, 1, none⟩ = some (.int .i64 ((q : Int) + 1)) := HS.out.c1
 rcases hd.2 with ⟨hn, ⟨rfl, rfl⟩ | ⟨a, cap, rfl, hnc, hx0'⟩⟩
 ·clear hd hn
  go_enter Tryd.func12, Tryd.ntmps12
  go_wp2_with fail
  go_ret
  exact ⟨0, by omega, rfl, HS.out, grown_set _ _ _ _⟩
 ·have hx : ∀ i, i < n → w.cell? (a.add i) = some (.int .u8 (xs i)) ∧ 0 ≤ xs i ∧ xs i ≤ 255 := fun i hi => (hx0' i hi).2
  have hx' : ∀ i, i < n → (w.setCell ⟨c, 1, none⟩ (.int .i64 ((q : Int) + 1))).cell? (a.add i) = some (.int .u8 (xs i)) := fun i hi => by
   rw [cell_of_addr i (Below.heap_setCell w _ _ a.block (hx0' i hi).1.1)]
   exact (hx i hi).1
  by_cases h0 : n = 0
  ·subst h0
   clear hd hn hx0' hx hx'
   go_enter Tryd.func12, Tryd.ntmps12
   go_wp2_with fail
   go_ret
   exact ⟨0, by omega, rfl, HS.out, grown_set _ _ _ _⟩
  ·have hb : ((n : Int) == 0) = false := by simp; omega
   by_cases hlt : q < n
   ·have hl : decide ((q : Int) < n) = true := by simp; omega
    have hc := hx' q hlt
    have hx0 := (hx q hlt).2
    clear hd hn hx0' hx hx' h0
    go_enter Tryd.func12, Tryd.ntmps12
    go_wp2_with fail
    go_ret
    exact ⟨(xs q % k).toNat, by have := Int.emod_nonneg (xs q) (show k ≠ 0 by omega); have := Int.emod_lt_of_pos (xs q) (show 0 < k by omega); omega, (ret_int (Int.toNat_of_nonneg (Int.emod_nonneg (xs q) (show k ≠ 0 by omega)))).symm, HS.out, grown_set _ _ _ _⟩
   ·have hn0 : (0 : Int) < n := by omega
    have a0 := Int.emod_nonneg (q : Int) (show (n : Int) ≠ 0 by omega)
    have a1 := Int.emod_lt_of_pos (q : Int) hn0
    have b0 := Int.emod_nonneg ((q : Int) * 7 + 3) (show (n : Int) ≠ 0 by omega)
    have b1 := Int.emod_lt_of_pos ((q : Int) * 7 + 3) hn0
    have ha := Nat.mod_lt q (show n > 0 by omega)
    have hb' := Nat.mod_lt (q * 7 + 3) (show n > 0 by omega)
    have hca := hx' (q % n) ha
    have hcb := hx' ((q * 7 + 3) % n) hb'
    have hxa := (hx (q % n) ha).2
    have hxb := (hx ((q * 7 + 3) % n) hb').2
    have d0 : (0 : Int) ≤ (q : Int) / n := Int.ediv_nonneg (by omega) (by omega)
    have d1 : (q : Int) / n ≤ q := Int.ediv_le_self _ (by omega)
    clear hd hx0' hx hx'
    go_enter Tryd.func12, Tryd.ntmps12
    go_wp2_with fail
    go_quiet (fail)
    go_wp2_with fail
    go_ret
    have hz := xor_nonneg (xs (q % n) * 131 + xs ((q * 7 + 3) % n) * 1117 + (q : Int) * 29 + (q : Int) / n * 53) (by omega) (by omega)
    have hm := Int.tmod_nonneg k hz
    refine ⟨_, ?_, (ret_int (Int.toNat_of_nonneg hm)).symm, HS.out.drewN _, World.grownBy.trans (grown_set _ _ _ _) (grown_drewN _ _ _)⟩
    have := Int.tmod_lt_of_pos (bits .xor .i64 (xs (q % n) * 131 + xs ((q * 7 + 3) % n) * 1117 + (q : Int) * 29 + (q : Int) / n * 53) ((xs (q % n) * 131 + xs ((q * 7 + 3) % n) * 1117 + (q : Int) * 29 + (q : Int) / n * 53) / 64)) (show 0 < k by omega)
    omega
end Go.Proofs.YtojhdfdhfajjjaaDoor
namespace Go.Proofs.YtojhdfdhfajjjaaDoor
open Go.RowKit Pl
def SSl (w : World) (b n : Nat) (f : Nat → ByteArray) : Prop := b < w.heap.size ∧ ∀ i, i < n → w.cell? ⟨b, i, none⟩ = some (.string (f i))
def ISl (w : World) (b n : Nat) (f : Nat → Int) : Prop := b < w.heap.size ∧ ∀ i, i < n → w.cell? ⟨b, i, none⟩ = some (.int .i64 (f i))
theorem SSl.grown {w w' : World} {b n : Nat} {f : Nat → ByteArray} {r : Option Nat} (h : SSl w b n f) (hg : w.grownBy w' r) (hr : some b ≠ r) : SSl w' b n f :=
 ⟨Nat.lt_of_lt_of_le h.1 hg.size, fun i hi => by rw [cell_of_block (hg.block b h.1 hr)]; exact h.2 i hi⟩
theorem ISl.grown {w w' : World} {b n : Nat} {f : Nat → Int} {r : Option Nat} (h : ISl w b n f) (hg : w.grownBy w' r) (hr : some b ≠ r) : ISl w' b n f :=
 ⟨Nat.lt_of_lt_of_le h.1 hg.size, fun i hi => by rw [cell_of_block (hg.block b h.1 hr)]; exact h.2 i hi⟩
set_option maxHeartbeats 1000000 in
theorem of_any (w : World) (c : Nat) (v : Value) (n : Nat) (xs : Nat → Int) (q : Nat) (b m cap : Nat) (f : Nat → ByteArray) (hd : DRd w c v n xs q) (hq : q ≤ 1000000) (h1 : 1 ≤ m) (h2 : m ≤ 1000) (hs : SSl w b m f) (hb : b ≠ c) :
  Calls Tryd.prog 32 #[.pointer (some ⟨c, 0, none⟩), .slice (some ⟨b, 0, none⟩) m cap] w fun e w' => ∃ j : Nat, j < m ∧ e = .returned (.string (f j)) ∧ DRd w' c v n xs (q + 1) ∧ w.grownBy w' (some c) := by
 have HD := Lib.hid hd
 have HS := Lib.hid hs
 clear hd hs
 go_enter Tryd.func32, Tryd.ntmps32
 go_wp2_with fail
 refine (pick_any w c v n xs q m HD.out hq (by omega) (by omega)).mono ?_
 rintro e w1 ⟨j, hj, rfl, hd1, hg⟩
 have hj' : j < m := by omega
 have hcell := (HS.out.grown hg (fun h => hb (Option.some.inj h))).2 j hj'
 have HD1 := Lib.hid hd1
 have HG := Lib.hid hg
 clear hd1 hg
 go_wp2_with fail
 go_ret
 exact ⟨j, hj', rfl, HD1.out, HG.out⟩
set_option maxHeartbeats 1000000 in
theorem num_any (w : World) (c : Nat) (v : Value) (n : Nat) (xs : Nat → Int) (q : Nat) (b m cap : Nat) (f : Nat → Int) (hd : DRd w c v n xs q) (hq : q ≤ 1000000) (h1 : 1 ≤ m) (h2 : m ≤ 1000) (hs : ISl w b m f) (hb : b ≠ c) :
  Calls Tryd.prog 13 #[.pointer (some ⟨c, 0, none⟩), .slice (some ⟨b, 0, none⟩) m cap] w fun e w' => ∃ j : Nat, j < m ∧ e = .returned (.int .i64 (f j)) ∧ DRd w' c v n xs (q + 1) ∧ w.grownBy w' (some c) := by
 have HD := Lib.hid hd
 have HS := Lib.hid hs
 clear hd hs
 go_enter Tryd.func13, Tryd.ntmps13
 go_wp2_with fail
 refine (pick_any w c v n xs q m HD.out hq (by omega) (by omega)).mono ?_
 rintro e w1 ⟨j, hj, rfl, hd1, hg⟩
 have hj' : j < m := by omega
 have hcell := (HS.out.grown hg (fun h => hb (Option.some.inj h))).2 j hj'
 have HD1 := Lib.hid hd1
 have HG := Lib.hid hg
 clear hd1 hg
 go_wp2_with fail
 go_ret
 exact ⟨j, hj', rfl, HD1.out, HG.out⟩
set_option maxHeartbeats 1000000 in
theorem known_any (w : World) (k : Nat) (hk : k < 15) :
  Calls Tryd.prog 31 #[.int .i64 k] w fun e w' => ∃ s : ByteArray, 1 ≤ s.size ∧ s.size ≤ 100 ∧ e = .returned (.string s) ∧ w.grownBy w' none := by
 have hm : ((k : Int) % 15) = k := by omega
 go_enter Tryd.func31, Tryd.ntmps31
 go_wp2_with fail
 go_ret
 rcases (show k = 0 ∨ k = 1 ∨ k = 2 ∨ k = 3 ∨ k = 4 ∨ k = 5 ∨ k = 6 ∨ k = 7 ∨ k = 8 ∨ k = 9 ∨ k = 10 ∨ k = 11 ∨ k = 12 ∨ k = 13 ∨ k = 14 by omega) with rfl | rfl | rfl | rfl | rfl | rfl | rfl | rfl | rfl | rfl | rfl | rfl | rfl | rfl | rfl <;> exact ⟨_, by decide, by decide, rfl, World.grownBy_alloc _ _ _⟩
end Go.Proofs.YtojhdfdhfajjjaaDoor
namespace Go.Proofs.YtojhdfdhfajjjaaDoor
set_option linter.unusedVariables false
set_option linter.unusedSimpArgs false
open Go.RowKit Pl
def stepSz : Nat → Nat
 | 0 => 3
 | d + 1 => 5 + 8 * stepSz d
def stepPk : Nat → Nat
 | 0 => 5
 | d + 1 => 7 + 8 * stepPk d
theorem stepSz_pos (d : Nat) : 3 ≤ stepSz d := by cases d <;> simp only [stepSz] <;> omega
theorem stepPk_pos (d : Nat) : 5 ≤ stepPk d := by cases d <;> simp only [stepPk] <;> omega
theorem stepSz_le {d : Nat} (h : d ≤ 2) : stepSz d ≤ 237 := by
 rcases (show d = 0 ∨ d = 1 ∨ d = 2 by omega) with rfl | rfl | rfl <;> decide
theorem stepPk_le {d : Nat} (h : d ≤ 2) : stepPk d ≤ 383 := by
 rcases (show d = 0 ∨ d = 1 ∨ d = 2 by omega) with rfl | rfl | rfl <;> decide
theorem ISl_alloc (w : World) (l : List Int) (t : Nat) : ISl (w.alloc (.cells (l.map (Value.int .i64)).toArray t)) w.heap.size l.length (fun i => l.getD i 0) := by
 have h : (w.alloc (.cells (l.map (Value.int .i64)).toArray t)).heap[w.heap.size]? = some (.cells (l.map (Value.int .i64)).toArray t) := by
  show (w.heap.push _)[w.heap.size]? = _
  simp
 refine ⟨(Array.getElem?_eq_some_iff.1 h).1, fun i hi => ?_⟩
 simp only [World.cell?, h]
 simp [hi, List.getD]
theorem SSl_alloc (w : World) (l : List ByteArray) (t : Nat) : SSl (w.alloc (.cells (l.map Value.string).toArray t)) w.heap.size l.length (fun i => l.getD i ⟨#[]⟩) := by
 have h : (w.alloc (.cells (l.map Value.string).toArray t)).heap[w.heap.size]? = some (.cells (l.map Value.string).toArray t) := by
  show (w.heap.push _)[w.heap.size]? = _
  simp
 refine ⟨(Array.getElem?_eq_some_iff.1 h).1, fun i hi => ?_⟩
 simp only [World.cell?, h]
 simp [hi, List.getD]
theorem lit1_ (a : UInt8) : (ByteArray.mk #[a]).size = 1 := rfl
theorem lit2_ (a b : UInt8) : (ByteArray.mk #[a, b]).size = 2 := rfl
theorem one_sub (s : ByteArray) (k : Nat) (h : k < s.size) : (s.extract k (k + 1)).size = 1 := by rw [ByteArray.size_extract]; omega
def BodyAt (d : Nat) : Prop := ∀ (w : World) (c : Nat) (v : Value) (n : Nat) (xs : Nat → Int) (q : Nat) (sc : ByteArray), DRd w c v n xs q → q + 1 + 4 * stepPk d ≤ 500000 → 1 ≤ sc.size → sc.size ≤ 4 →
  Calls Tryd.prog 33 #[.pointer (some ⟨c, 0, none⟩), .string sc, .int .i64 d] w fun e w' => ∃ (s : ByteArray) (q' : Nat), s.size ≤ 4 * stepSz d ∧ q ≤ q' ∧ q' ≤ q + 1 + 4 * stepPk d ∧ e = .returned (.string s) ∧ DRd w' c v n xs q' ∧ w.grownBy w' (some c)
def BodyRel (d m q c : Nat) (v : Value) (n : Nat) (xs : Nat → Int) (w : World) (o i : Value) (wr : World) : Prop :=
 ∃ (k q' : Nat) (s : ByteArray), k ≤ m ∧ i = .int .i64 k ∧ o = .string s ∧ s.size ≤ k * stepSz d ∧ q ≤ q' ∧ q' ≤ q + k * stepPk d ∧ DRd wr c v n xs q' ∧ w.grownBy wr (some c)
theorem BodyRel.next {d m q c : Nat} {v : Value} {n : Nat} {xs : Nat → Int} {w : World} {wr wr' : World} {k q' q'' : Nat} {s s' : ByteArray} (hk : k < m) (hs : s.size ≤ k * stepSz d) (hq0 : q ≤ q') (hq : q' ≤ q + k * stepPk d)
  (hg : w.grownBy wr (some c)) (hs' : s'.size ≤ s.size + stepSz d) (h1 : q' ≤ q'') (h2 : q'' ≤ q' + stepPk d) (hd : DRd wr' c v n xs q'') (hg' : wr.grownBy wr' (some c)) :
  BodyRel d m q c v n xs w (.string s') (.int .i64 (k + 1 : Nat)) wr' :=
 ⟨k + 1, q'', s', hk, rfl, rfl, by rw [Nat.succ_mul]; omega, by omega, by rw [Nat.succ_mul]; omega, hd, hg.trans hg'⟩
theorem mul_le4 {k a b : Nat} (hk : k ≤ 4) (h : a ≤ b) : k * a ≤ 4 * b := Nat.mul_le_mul hk h
set_option maxHeartbeats 4000000 in
set_option maxRecDepth 100000 in
theorem body_step (d : Nat) (hd2 : d ≤ 2) (ih : ∀ d', d = d' + 1 → BodyAt d') : BodyAt d := by
 intro w c v n xs q sc hd hq h1 h4
 have HD := Lib.hid hd
 have HIH := Lib.hid ih
 clear hd ih
 go_enter Tryd.func33, Tryd.ntmps33
 go_wp2_with fail
 have hA := World.grownBy_alloc w (.cells #[.int .i64 2, .int .i64 3, .int .i64 1, .int .i64 4, .int .i64 0] 3) (some c)
 have hAD := HD.out.grown (World.grownBy_alloc w (.cells #[.int .i64 2, .int .i64 3, .int .i64 1, .int .i64 4, .int .i64 0] 3) none) (by simp)
 refine (num_any _ c v n xs q w.heap.size 5 5 (fun i => [2, 3, 1, 4, 0].getD i 0) hAD (by omega) (by omega) (by omega) (ISl_alloc w [2, 3, 1, 4, 0] 3) (Nat.ne_of_gt HD.out.lt)).mono ?_
 rintro e w1 ⟨j, hj, rfl, hd1, hg1⟩
 have hm : ∃ m : Nat, m ≤ 4 ∧ [2, 3, 1, 4, 0].getD j (0 : Int) = m := by
  rcases (show j = 0 ∨ j = 1 ∨ j = 2 ∨ j = 3 ∨ j = 4 by omega) with rfl | rfl | rfl | rfl | rfl <;> exact ⟨_, by decide, rfl⟩
 obtain ⟨m, hm, hjm⟩ := hm
 rw [hjm]
 have HD1 := Lib.hid hd1
 have HG1 := Lib.hid (World.grownBy.trans hA hg1)
 clear hjm hj hd1 hg1 hA hAD
 go_wp2_with fail
 go_loopw [7, 16] (fun o i wr => BodyRel d m (q + 1) c v n xs w o i wr) (fun _ i _ => m - (intOf i).toNat)
 case atStart => exact ⟨0, q + 1, ⟨#[]⟩, by omega, rfl, rfl, Nat.zero_le _, by omega, by omega, HD1.out, HG1.out⟩
 case round =>
  obtain ⟨k, q', s, hkm, rfl, rfl, hs, hq0, hq', hdr, hgr⟩ := hrel
  have hP := mul_le4 (Nat.le_trans hkm hm) (stepPk_le hd2)
  have hS := mul_le4 (Nat.le_trans hkm hm) (stepSz_le hd2)
  have hsz : s.size ≤ 948 := by omega
  have HR := Lib.hid hdr
  by_cases hlt : k < m
  ·have hP1 := Nat.mul_le_mul_right (stepPk d) (show k + 1 ≤ 4 by omega)
   rw [Nat.succ_mul] at hP1
   have hqz : q' + stepPk d ≤ 500000 := by omega
   have h5p := stepPk_pos d
   have FIN := Lib.hid (fun (q'' : Nat) (s' : ByteArray) (wr' : World) => BodyRel.next (v := v) (n := n) (xs := xs) (wr' := wr') (s' := s') (q'' := q'') hlt hs hq0 hq' hgr)
   have hlm : decide ((k : Int) < m) = true := by simp; omega
   clear hdr hgr hs hq0 hq' hP hS hP1
   go_wp2_with fail
   refine (pick_any wr c v n xs q' sc.size HR.out (by omega) (by omega) (by omega)).mono ?_
   rintro e w2 ⟨j, hj, rfl, hd2', hg2⟩
   have hj' : j < sc.size := by omega
   have HV := Lib.hid (one_sub sc j hj')
   have HD2 := Lib.hid hd2'
   have HG2 := Lib.hid hg2
   clear hd2' hg2
   go_wp2_with fail
   refine (pick_any w2 c v n xs (q' + 1) 11 HD2.out (by omega) (by omega) (by omega)).mono ?_
   rintro e w3 ⟨j2, hj2, rfl, hd3, hg3⟩
   have HD3 := Lib.hid hd3
   have HG3 := Lib.hid (World.grownBy.trans HG2.out hg3)
   have hj2' : j2 < 11 := by omega
   clear hd3 hg3 HG2 HD2 hj2
   rcases (show j2 = 0 ∨ j2 = 1 ∨ j2 = 2 ∨ j2 = 3 ∨ j2 = 4 ∨ j2 = 5 ∨ j2 = 6 ∨ j2 = 7 ∨ j2 = 8 ∨ j2 = 9 ∨ j2 = 10 by omega) with rfl | rfl | rfl | rfl | rfl | rfl | rfl | rfl | rfl | rfl | rfl
   ·go_wp2_with fail
    have p3_ := stepSz_pos d
    have p5_ := stepPk_pos d
    have e_ := HV.out
    refine ⟨FIN.out (q' + 2) _ _ (by first | omega | (simp only [ByteArray.size_append, lit1_, lit2_]; omega)) (by omega) (by omega) HD3.out HG3.out, by simp [intOf]; omega⟩
   ·go_wp2_with fail
    have p3_ := stepSz_pos d
    have p5_ := stepPk_pos d
    have e_ := HV.out
    refine ⟨FIN.out (q' + 2) _ _ (by first | omega | (simp only [ByteArray.size_append, lit1_, lit2_]; omega)) (by omega) (by omega) HD3.out HG3.out, by simp [intOf]; omega⟩
   ·go_wp2_with fail
    have p3_ := stepSz_pos d
    have p5_ := stepPk_pos d
    have e_ := HV.out
    refine ⟨FIN.out (q' + 2) _ _ (by first | omega | (simp only [ByteArray.size_append, lit1_, lit2_]; omega)) (by omega) (by omega) HD3.out HG3.out, by simp [intOf]; omega⟩
   ·go_wp2_with fail
    have hB := World.grownBy_alloc w3 (.cells #[.string ⟨#[45]⟩, .string ⟨#[126]⟩] 9) (some c)
    have hBD := HD3.out.grown (World.grownBy_alloc w3 (.cells #[.string ⟨#[45]⟩, .string ⟨#[126]⟩] 9) none) (by simp)
    refine (of_any _ c v n xs (q' + 2) w3.heap.size 2 2 (fun i => [ByteArray.mk #[45], ByteArray.mk #[126]].getD i ⟨#[]⟩) hBD (by omega) (by omega) (by omega) (SSl_alloc w3 [ByteArray.mk #[45], ByteArray.mk #[126]] 9) (Nat.ne_of_gt HD3.out.lt)).mono ?_
    rintro e w4 ⟨j4, hj4, rfl, hd4, hg4⟩
    have hL4 : ([ByteArray.mk #[45], ByteArray.mk #[126]].getD j4 ⟨#[]⟩).size ≤ 1 := by rcases (show j4 = 0 ∨ j4 = 1 by omega) with rfl | rfl <;> exact Nat.le_refl _
    have HD4 := Lib.hid hd4
    have HG4 := Lib.hid (World.grownBy.trans HG3.out (World.grownBy.trans hB hg4))
    clear hd4 hg4 hB hBD hj4
    generalize [ByteArray.mk #[45], ByteArray.mk #[126]].getD j4 ⟨#[]⟩ = t4 at *
    go_wp2_with fail
    have p3_ := stepSz_pos d
    have p5_ := stepPk_pos d
    have e_ := HV.out
    refine ⟨FIN.out (q' + 3) _ _ (by first | omega | (simp only [ByteArray.size_append, lit1_, lit2_]; omega)) (by omega) (by omega) HD4.out HG4.out, by simp [intOf]; omega⟩
   ·go_wp2_with fail
    have p3_ := stepSz_pos d
    have p5_ := stepPk_pos d
    have e_ := HV.out
    refine ⟨FIN.out (q' + 2) _ _ (by first | omega | (simp only [ByteArray.size_append, lit1_, lit2_]; omega)) (by omega) (by omega) HD3.out HG3.out, by simp [intOf]; omega⟩
   ·go_wp2_with fail
    have p3_ := stepSz_pos d
    have p5_ := stepPk_pos d
    have e_ := HV.out
    refine ⟨FIN.out (q' + 2) _ _ (by first | omega | (simp only [ByteArray.size_append, lit1_, lit2_]; omega)) (by omega) (by omega) HD3.out HG3.out, by simp [intOf]; omega⟩
   ·go_wp2_with fail
    refine (pick_any w3 c v n xs (q' + 2) sc.size HD3.out (by omega) (by omega) (by omega)).mono ?_
    rintro e w4 ⟨j4, hj4, rfl, hd4, hg4⟩
    have hj4' : j4 < sc.size := by omega
    have HD4 := Lib.hid hd4
    have HG4 := Lib.hid (World.grownBy.trans HG3.out hg4)
    clear hd4 hg4 hj4
    have HW := Lib.hid (show (sc.extract j (j + 1)).size = 1 ∧ ((sc.extract j4 sc.size).extract 0 1).size ≤ 1 from ⟨HV.out, by rw [ByteArray.size_extract]; omega⟩)
    go_wp2_with fail
    ·have p3_ := stepSz_pos d
     have p5_ := stepPk_pos d
     have e_ := HW.out
     refine ⟨FIN.out (q' + 3) _ _ (by first | omega | (simp only [ByteArray.size_append, lit1_, lit2_]; omega)) (by omega) (by omega) HD4.out HG4.out, by simp [intOf]; omega⟩
    ·have p3_ := stepSz_pos d
     have p5_ := stepPk_pos d
     have e_ := HW.out
     refine ⟨FIN.out (q' + 3) _ _ (by first | omega | (simp only [ByteArray.size_append, lit1_, lit2_]; omega)) (by omega) (by omega) HD4.out HG4.out, by simp [intOf]; omega⟩
   ·by_cases hz : d ≤ 0
    ·go_wp2_with fail
     have p3_ := stepSz_pos d
     have p5_ := stepPk_pos d
     have e_ := HV.out
     refine ⟨FIN.out (q' + 2) _ _ (by first | omega | (simp only [ByteArray.size_append, lit1_, lit2_]; omega)) (by omega) (by omega) HD3.out HG3.out, by simp [intOf]; omega⟩
    ·obtain ⟨d', hd'⟩ : ∃ d', d = d' + 1 := ⟨d - 1, by omega⟩
     have HE := Lib.hid hd'
     have hd'2 : d' ≤ 1 := by omega
     have HPK : stepPk d = 7 + 8 * stepPk d' := by rw [hd']; rfl
     have HSZ := Lib.hid (show stepSz d = 5 + 8 * stepSz d' by rw [hd']; rfl)
     have hsz' := stepSz_le (show d' ≤ 2 by omega)
     have HIH' := Lib.hid (HIH.out d' hd')
     have hde := Lib.hid (show ((d : Int) - 1) = ((d' : Nat) : Int) by omega)
     clear hd'
     go_wp2_with fail
     rw [hde.out]
     refine (HIH'.out w3 c v n xs (q' + 2) sc HD3.out (by omega) h1 h4).mono ?_
     rintro e w4 ⟨t4, q4, ht4, hq4, hq4', rfl, hd4, hg4⟩
     have HD4 := Lib.hid hd4
     have HG4 := Lib.hid (World.grownBy.trans HG3.out hg4)
     clear hd4 hg4
     go_wp2_with fail
     rw [hde.out]
     refine (HIH'.out w4 c v n xs q4 sc HD4.out (by omega) h1 h4).mono ?_
     rintro e w5 ⟨t5, q5, ht5, hq5, hq5', rfl, hd5, hg5⟩
     have HD5 := Lib.hid hd5
     have HG5 := Lib.hid (World.grownBy.trans HG4.out hg5)
     clear hd5 hg5
     go_wp2_with fail
     have p3_ := stepSz_pos d
     have p5_ := stepPk_pos d
     have e_ := HSZ.out
     refine ⟨FIN.out q5 _ _ (by first | omega | (simp only [ByteArray.size_append, lit1_, lit2_]; omega)) (by omega) (by omega) HD5.out HG5.out, by simp [intOf]; omega⟩
   ·by_cases hz : d ≤ 0
    ·go_wp2_with fail
     have p3_ := stepSz_pos d
     have p5_ := stepPk_pos d
     have e_ := HV.out
     refine ⟨FIN.out (q' + 2) _ _ (by first | omega | (simp only [ByteArray.size_append, lit1_, lit2_]; omega)) (by omega) (by omega) HD3.out HG3.out, by simp [intOf]; omega⟩
    ·obtain ⟨d', hd'⟩ : ∃ d', d = d' + 1 := ⟨d - 1, by omega⟩
     have HPK : stepPk d = 7 + 8 * stepPk d' := by rw [hd']; rfl
     have HSZ := Lib.hid (show stepSz d = 5 + 8 * stepSz d' by rw [hd']; rfl)
     have hsz' := stepSz_le (show d' ≤ 2 by omega)
     have HIH' := Lib.hid (HIH.out d' hd')
     have hde := Lib.hid (show ((d : Int) - 1) = ((d' : Nat) : Int) by omega)
     clear hd'
     go_wp2_with fail
     rw [hde.out]
     refine (HIH'.out w3 c v n xs (q' + 2) sc HD3.out (by omega) h1 h4).mono ?_
     rintro e w4 ⟨t4, q4, ht4, hq4, hq4', rfl, hd4, hg4⟩
     have HD4 := Lib.hid hd4
     have HG4 := Lib.hid (World.grownBy.trans HG3.out hg4)
     clear hd4 hg4
     go_wp2_with fail
     have p3_ := stepSz_pos d
     have p5_ := stepPk_pos d
     have e_ := HSZ.out
     refine ⟨FIN.out q4 _ _ (by first | omega | (simp only [ByteArray.size_append, lit1_, lit2_]; omega)) (by omega) (by omega) HD4.out HG4.out, by simp [intOf]; omega⟩
   ·by_cases hz : d ≤ 0
    ·go_wp2_with fail
     have p3_ := stepSz_pos d
     have p5_ := stepPk_pos d
     have e_ := HV.out
     refine ⟨FIN.out (q' + 2) _ _ (by first | omega | (simp only [ByteArray.size_append, lit1_, lit2_]; omega)) (by omega) (by omega) HD3.out HG3.out, by simp [intOf]; omega⟩
    ·obtain ⟨d', hd'⟩ : ∃ d', d = d' + 1 := ⟨d - 1, by omega⟩
     have HPK : stepPk d = 7 + 8 * stepPk d' := by rw [hd']; rfl
     have HSZ := Lib.hid (show stepSz d = 5 + 8 * stepSz d' by rw [hd']; rfl)
     have hsz' := stepSz_le (show d' ≤ 2 by omega)
     have HIH' := Lib.hid (HIH.out d' hd')
     have hde := Lib.hid (show ((d : Int) - 1) = ((d' : Nat) : Int) by omega)
     clear hd'
     by_cases h44 : sc.size < 4
     ·have hv6 : ((ByteArray.mk #[97, 98, 99, 100, 101, 102]).extract sc.size (sc.size + 1)).size ≤ 1 := by rw [ByteArray.size_extract]; omega
      have hs6 := Lib.hid (show 1 ≤ (sc ++ (ByteArray.mk #[97, 98, 99, 100, 101, 102]).extract sc.size (sc.size + 1)).size ∧ (sc ++ (ByteArray.mk #[97, 98, 99, 100, 101, 102]).extract sc.size (sc.size + 1)).size ≤ 4 by rw [ByteArray.size_append]; omega)
      go_wp2_with fail
      rw [hde.out]
      refine (HIH'.out w3 c v n xs (q' + 2) _ HD3.out (by omega) hs6.out.1 hs6.out.2).mono ?_
      rintro e w4 ⟨t4, q4, ht4, hq4, hq4', rfl, hd4, hg4⟩
      have HD4 := Lib.hid hd4
      have HG4 := Lib.hid (World.grownBy.trans HG3.out hg4)
      clear hd4 hg4
      go_wp2_with fail
      have p3_ := stepSz_pos d
      have p5_ := stepPk_pos d
      have e_ := HSZ.out
      refine ⟨FIN.out q4 _ _ (by first | omega | (simp only [ByteArray.size_append, lit1_, lit2_]; omega)) (by omega) (by omega) HD4.out HG4.out, by simp [intOf]; omega⟩
     ·go_wp2_with fail
      have p3_ := stepSz_pos d
      have p5_ := stepPk_pos d
      have e_ := HV.out
      refine ⟨FIN.out (q' + 2) _ _ (by first | omega | (simp only [ByteArray.size_append, lit1_, lit2_]; omega)) (by omega) (by omega) HD3.out HG3.out, by simp [intOf]; omega⟩
   ·go_wp2_with fail
    refine (pick_any w3 c v n xs (q' + 2) 4 HD3.out (by omega) (by omega) (by omega)).mono ?_
    rintro e w4 ⟨j4, hj4, rfl, hd4, hg4⟩
    have HD4 := Lib.hid hd4
    have HG4 := Lib.hid (World.grownBy.trans HG3.out hg4)
    clear hd4 hg4 hj4
    by_cases hz : j4 = 0
    ·have hz' : ((j4 : Int) == 0) = true := by simp; omega
     clear hz
     go_wp2_with fail
     have hB := World.grownBy_alloc w4 (.cells #[.string ⟨#[94]⟩, .string ⟨#[33]⟩] 9) (some c)
     have hBD := HD4.out.grown (World.grownBy_alloc w4 (.cells #[.string ⟨#[94]⟩, .string ⟨#[33]⟩] 9) none) (by simp)
     refine (of_any _ c v n xs (q' + 3) w4.heap.size 2 2 (fun i => [ByteArray.mk #[94], ByteArray.mk #[33]].getD i ⟨#[]⟩) hBD (by omega) (by omega) (by omega) (SSl_alloc w4 [ByteArray.mk #[94], ByteArray.mk #[33]] 9) (Nat.ne_of_gt HD4.out.lt)).mono ?_
     rintro e w5 ⟨j5, hj5, rfl, hd5, hg5⟩
     have hL5 : ([ByteArray.mk #[94], ByteArray.mk #[33]].getD j5 ⟨#[]⟩).size ≤ 1 := by rcases (show j5 = 0 ∨ j5 = 1 by omega) with rfl | rfl <;> exact Nat.le_refl _
     have HD5 := Lib.hid hd5
     have HG5 := Lib.hid (World.grownBy.trans HG4.out (World.grownBy.trans hB hg5))
     clear hd5 hg5 hB hBD hj5
     generalize [ByteArray.mk #[94], ByteArray.mk #[33]].getD j5 ⟨#[]⟩ = t5 at *
     go_wp2_with fail
     have p3_ := stepSz_pos d
     have p5_ := stepPk_pos d
     have e_ := HV.out
     refine ⟨FIN.out (q' + 4) _ _ (by first | omega | (simp only [ByteArray.size_append, lit1_, lit2_]; omega)) (by omega) (by omega) HD5.out HG5.out, by simp [intOf]; omega⟩
    ·have hz' : ((j4 : Int) == 0) = false := by simp; omega
     clear hz
     go_wp2_with fail
     have p3_ := stepSz_pos d
     have p5_ := stepPk_pos d
     have e_ := HV.out
     refine ⟨FIN.out (q' + 3) _ _ (by first | omega | (simp only [ByteArray.size_append, lit1_, lit2_]; omega)) (by omega) (by omega) HD4.out HG4.out, by simp [intOf]; omega⟩
  ·have hS' := mul_le4 (Nat.le_trans hkm hm) (Nat.le_refl (stepSz d))
   have hP' := mul_le4 (Nat.le_trans hkm hm) (Nat.le_refl (stepPk d))
   have HE := Lib.hid (show s.size ≤ 4 * stepSz d ∧ q ≤ q' ∧ q' ≤ q + 1 + 4 * stepPk d ∧ DRd wr c v n xs q' ∧ w.grownBy wr (some c) from ⟨by omega, by omega, by omega, hdr, hgr⟩)
   clear hdr hgr hs hq0 hq' hP hS hS' hP'
   go_wp2_with fail
   go_ret
   exact ⟨s, q', HE.out.1, HE.out.2.1, HE.out.2.2.1, rfl, HE.out.2.2.2⟩
theorem draw_body : ∀ d, d ≤ 2 → BodyAt d
 | 0, h => body_step 0 h fun _ e => by omega
 | d + 1, h => body_step (d + 1) h fun d' e => by
  obtain rfl : d = d' := by omega
  exact draw_body d (by omega)
theorem grown_of {w w' : World} (h : Below w.heap.size w w') (r : Option Nat) : w.grownBy w' r := ⟨h.os, h.tape, h.output, h.size, fun j hj _ => h.block j hj⟩
theorem DRd.below {w w' : World} {c : Nat} {v : Value} {n : Nat} {xs : Nat → Int} {q : Nat} (h : DRd w c v n xs q) (hb : Below w.heap.size w w') : DRd w' c v n xs q :=
 h.grown (grown_of hb none) (by simp)
def DrawPost (c : Nat) (v : Value) (n : Nat) (xs : Nat → Int) (w : World) (q lo hi pk : Nat) (e : Ending) (w' : World) : Prop :=
 ∃ (s : ByteArray) (q' : Nat), lo ≤ s.size ∧ s.size ≤ hi ∧ q ≤ q' ∧ q' ≤ q + pk ∧ e = .returned (.string s) ∧ DRd w' c v n xs q' ∧ w.grownBy w' (some c)
set_option maxHeartbeats 1000000 in
set_option maxRecDepth 100000 in
theorem good_any (w : World) (c : Nat) (v : Value) (n : Nat) (xs : Nat → Int) (q : Nat) (hd : DRd w c v n xs q) (hq : q ≤ 100000) :
  Calls Tryd.prog 21 #[.pointer (some ⟨c, 0, none⟩)] w (DrawPost c v n xs w q 1 1000 1600) := by
 have HD := Lib.hid hd
 clear hd
 go_enter Tryd.func21, Tryd.ntmps21
 go_wp2_with fail
 refine (pick_any w c v n xs q 3 HD.out (by omega) (by omega) (by omega)).mono ?_
 rintro e w1 ⟨j, hj, rfl, hd1, hg1⟩
 have HD1 := Lib.hid hd1
 have HG1 := Lib.hid hg1
 clear hd1 hg1
 by_cases hz : j = 0
 ·have hz' : ((j : Int) == 0) = true := by simp; omega
  clear hz hj
  go_wp2_with fail
  refine (pick_any w1 c v n xs (q + 1) 15 HD1.out (by omega) (by omega) (by omega)).mono ?_
  rintro e w2 ⟨j2, hj2, rfl, hd2, hg2⟩
  have HD2 := Lib.hid hd2
  have HG2 := Lib.hid (World.grownBy.trans HG1.out hg2)
  clear hd2 hg2
  go_wp2_with fail
  refine (known_any w2 j2 (by omega)).mono ?_
  rintro e w3 ⟨s, hs1, hs2, rfl, hg3⟩
  have HD3 := Lib.hid (HD2.out.grown hg3 (by simp))
  have HG3 := Lib.hid (World.grownBy.trans HG2.out ⟨hg3.os, hg3.tape, hg3.output, hg3.size, fun j hj _ => hg3.block j hj (by simp)⟩)
  clear hg3
  go_wp2_with fail
  go_ret
  exact ⟨s, q + 2, hs1, by omega, by omega, by omega, rfl, HD3.out, HG3.out⟩
 ·have hz' : ((j : Int) == 0) = false := by simp; omega
  clear hz hj
  go_wp2_with fail
  have hB := World.grownBy_alloc w1 (.cells #[.string ⟨#[97, 98]⟩, .string ⟨#[97]⟩, .string ⟨#[97, 98, 99]⟩] 9) (some c)
  have hBD := HD1.out.grown (World.grownBy_alloc w1 (.cells #[.string ⟨#[97, 98]⟩, .string ⟨#[97]⟩, .string ⟨#[97, 98, 99]⟩] 9) none) (by simp)
  refine (of_any _ c v n xs (q + 1) w1.heap.size 3 3 (fun i => [ByteArray.mk #[97, 98], ByteArray.mk #[97], ByteArray.mk #[97, 98, 99]].getD i ⟨#[]⟩) hBD (by omega) (by omega) (by omega) (SSl_alloc w1 [ByteArray.mk #[97, 98], ByteArray.mk #[97], ByteArray.mk #[97, 98, 99]] 9) (Nat.ne_of_gt HD1.out.lt)).mono ?_
  rintro e w2 ⟨j2, hj2, rfl, hd2, hg2⟩
  have hL : 1 ≤ ([ByteArray.mk #[97, 98], ByteArray.mk #[97], ByteArray.mk #[97, 98, 99]].getD j2 ⟨#[]⟩).size ∧ ([ByteArray.mk #[97, 98], ByteArray.mk #[97], ByteArray.mk #[97, 98, 99]].getD j2 ⟨#[]⟩).size ≤ 3 := by
   rcases (show j2 = 0 ∨ j2 = 1 ∨ j2 = 2 by omega) with rfl | rfl | rfl <;> decide
  have HD2 := Lib.hid hd2
  have HG2 := Lib.hid (World.grownBy.trans HG1.out (World.grownBy.trans hB hg2))
  clear hd2 hg2 hB hBD hj2
  generalize [ByteArray.mk #[97, 98], ByteArray.mk #[97], ByteArray.mk #[97, 98, 99]].getD j2 ⟨#[]⟩ = t2 at *
  obtain ⟨hL1, hL2⟩ := hL
  go_wp2_with fail
  refine (draw_body 2 (Nat.le_refl _) w2 c v n xs (q + 2) t2 HD2.out (by show q + 2 + 1 + 4 * 383 ≤ _; omega) hL1 (by omega)).mono ?_
  rintro e w3 ⟨s3, q3, hs3, hq3, hq3', rfl, hd3, hg3⟩
  have hs3' : s3.size ≤ 948 := hs3
  have hq4 : q3 ≤ q + 2 + 1 + 1532 := hq3'
  have HD3 := Lib.hid hd3
  have HG3 := Lib.hid (World.grownBy.trans HG2.out hg3)
  clear hd3 hg3 hs3 hq3'
  go_wp2_with fail
  have hsz : ((ByteArray.mk #[123]) ++ t2 ++ (ByteArray.mk #[58]) ++ s3 ++ (ByteArray.mk #[125])).size ≤ 960 ∧ 1 ≤ ((ByteArray.mk #[123]) ++ t2 ++ (ByteArray.mk #[58]) ++ s3 ++ (ByteArray.mk #[125])).size := by
   simp only [ByteArray.size_append, lit1_]; omega
  generalize (ByteArray.mk #[123]) ++ t2 ++ (ByteArray.mk #[58]) ++ s3 ++ (ByteArray.mk #[125]) = t at *
  refine (svalid_any t w3 (by omega)).mono ?_
  rintro e w4 ⟨rfl, hb⟩
  have HD4 := Lib.hid (HD3.out.below hb)
  have HG4 := Lib.hid (World.grownBy.trans HG3.out (grown_of hb (some c)))
  clear hb
  cases (SParse t).isSome
  ·go_wp2_with fail
   go_ret
   exact ⟨_, q3, by decide, by decide, by omega, by omega, rfl, HD4.out, HG4.out⟩
  ·go_wp2_with fail
   go_ret
   exact ⟨_, q3, hsz.2, by omega, by omega, by omega, rfl, HD4.out, HG4.out⟩
end Go.Proofs.YtojhdfdhfajjjaaDoor
namespace Go.Proofs.YtojhdfdhfajjjaaDoor
set_option linter.unusedVariables false
set_option linter.unusedSimpArgs false
open Go.RowKit Pl
def BArg (w : World) (v : Value) (n : Nat) (xs : Nat → Int) : Prop :=
 (n = 0 ∧ v = .slice none 0 0) ∨ ∃ (a : Addr) (cap : Nat), v = .slice (some a) n cap ∧ n ≤ cap ∧ ∀ i, i < n → a.block < w.heap.size ∧ w.cell? (a.add i) = some (.int .u8 (xs i)) ∧ 0 ≤ xs i ∧ xs i ≤ 255
theorem BArg.below {w w' : World} {v : Value} {n : Nat} {xs : Nat → Int} (h : BArg w v n xs) (hb : Below w.heap.size w w') : BArg w' v n xs := by
 refine h.imp id ?_
 rintro ⟨a, cap, rfl, hnc, hx⟩
 exact ⟨a, cap, rfl, hnc, fun i hi => by
  obtain ⟨hlt, hx⟩ := hx i hi
  exact ⟨Nat.lt_of_lt_of_le hlt hb.size, by rw [cell_of_addr i (hb.block a.block hlt)]; exact hx⟩⟩
def OpenPost (w : World) (xs : Nat → Int) (e : Ending) (w' : World) : Prop :=
 ∃ (v : Value) (n : Nat), e = .returned (.pointer (some ⟨w.heap.size, 0, none⟩)) ∧ DRd w' w.heap.size v n xs 0 ∧ Below w.heap.size w w'
theorem open_made {w : World} {v : Value} {n : Nat} {xs : Nat → Int} (h : BArg w v n xs) (hn : n ≤ 2000) : DRd (w.alloc (.cells #[v, .int .i64 0] 44)) w.heap.size v n xs 0 := by
 have e : (w.alloc (.cells #[v, .int .i64 0] 44)).heap[w.heap.size]? = some (.cells #[v, .int .i64 0] 44 (0, 0)) := by
  show (w.heap.push _)[w.heap.size]? = _
  simp
 refine ⟨e, hn, h.imp id ?_⟩
 rintro ⟨a, cap, rfl, hnc, hx⟩
 exact ⟨a, cap, rfl, hnc, fun i hi => by
  obtain ⟨hlt, hx⟩ := hx i hi
  have hb : (w.alloc (.cells #[Value.slice (some a) n cap, .int .i64 0] 44)).heap[a.block]? = w.heap[a.block]? := (World.grownBy_alloc w _ none).block _ hlt (by simp)
  exact ⟨⟨Nat.ne_of_lt hlt, Nat.lt_of_lt_of_le hlt (World.grownBy_alloc w _ none).size⟩, by rw [cell_of_addr i hb]; exact hx⟩⟩
set_option maxHeartbeats 1000000 in
theorem open_any (w : World) (v : Value) (n : Nat) (xs : Nat → Int) (hn : n ≤ 1048576) (h : BArg w v n xs) : Calls Tryd.prog 11 #[v] w (OpenPost w xs) := by
 have H := Lib.hid h
 have HB := Lib.hid (fun o => below_of (World.grownBy_alloc w o none))
 rcases h with ⟨rfl, rfl⟩ | ⟨a, cap, rfl, hnc, hx⟩
 ·go_enter Tryd.func11, Tryd.ntmps11
  go_wp2_with fail
  go_ret
  exact ⟨_, 0, rfl, open_made H.out (by omega), HB.out _⟩
 ·clear hx
  by_cases h2 : 2000 < n
  ·have H2 := Lib.hid (show BArg w (.slice (some a) 2000 cap) 2000 xs by
    rcases H.out with ⟨rfl, h⟩ | ⟨a', cap', e, hnc, hx⟩
    ·omega
    ·injection e with e1 e2 e3
     injection e1 with e1
     subst e1 e3
     exact .inr ⟨a, cap, rfl, by omega, fun i hi => hx i (by omega)⟩)
   go_enter Tryd.func11, Tryd.ntmps11
   go_wp2_with fail
   go_ret
   exact ⟨_, 2000, rfl, open_made H2.out (Nat.le_refl _), HB.out _⟩
  ·go_enter Tryd.func11, Tryd.ntmps11
   go_wp2_with fail
   go_ret
   exact ⟨_, n, rfl, open_made H.out (by omega), HB.out _⟩
theorem below_new {w w1 w2 : World} (h : Below w.heap.size w w1) (hg : w1.grownBy w2 (some w.heap.size)) : Below w.heap.size w w2 :=
 ⟨hg.os.trans h.os, hg.tape.trans h.tape, hg.output.trans h.output, Nat.le_trans h.size hg.size, fun j hj => (hg.block j (Nat.lt_of_lt_of_le hj h.size) (fun e => by have := Option.some.inj e; omega)).trans (h.block j hj)⟩
end Go.Proofs.YtojhdfdhfajjjaaDoor
