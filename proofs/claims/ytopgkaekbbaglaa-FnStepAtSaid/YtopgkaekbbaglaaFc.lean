/- InScope, StepAt, NeedOf, of the program and of the reference; the laws. -/
import Derived.Test.YtopgkaekbbaglaaFb
namespace Go.Proofs.Ytopgkaekbbaglaa
open Go.RowKit Pl

/-! ### InScope -/
def scopeOf (p : ByteArray) (a : Int) : ByteArray := match FindAt p a with
  | none => ⟨#[]⟩
  | some i => i.scope
theorem scopeOf_some {p : ByteArray} {a : Int} {i : Inf} (h : FindAt p a = some i) : scopeOf p a = i.scope := by unfold scopeOf; rw [h]
theorem scopeOf_none {p : ByteArray} {a : Int} (h : FindAt p a = none) : scopeOf p a = ⟨#[]⟩ := by unfold scopeOf; rw [h]
theorem some_is {p : ByteArray} {a : Int} {i : Inf} (h : FindAt p a = some i) : (FindAt p a).isSome = true := by rw [h]; rfl
theorem none_is {p : ByteArray} {a : Int} (h : FindAt p a = none) : (FindAt p a).isSome = false := by rw [h]; rfl
theorem ret_sb {a b : ByteArray} {x y : Bool} (h : a = b) (k : x = y) : Ending.returned (.tuple #[.string a, .bool x]) = .returned (.tuple #[.string b, .bool y]) := by rw [h, k]
set_option maxHeartbeats 800000 in
set_option maxRecDepth 1000000 in
theorem iscope_any (p : ByteArray) (a : Int) (w : World) (hp : p.size ≤ 1048576) : Calls Try.prog 28 #[.string p, .int .i64 a] w fun e w' => e = .returned (.tuple #[.string (scopeOf p a), .bool (FindAt p a).isSome]) ∧ Below w.heap.size w w' := by
  go_enter Try.func28, Try.ntmps28
  go_wp2_with fail
  refine (ifind_any p a w hp).mono ?_
  rintro e w1 ⟨hb, h⟩
  have HB := Lib.hid hb
  clear hb
  rcases h with ⟨hs, rfl⟩ | ⟨i, g, A, n, c, hs, rfl, hh⟩
  · have HS := Lib.hid hs
    clear hs
    go_wp2_with fail
    go_ret2
    exact ⟨ret_sb (scopeOf_none HS.out).symm (none_is HS.out).symm, HB.out⟩
  · have HS := Lib.hid hs
    have hk4 : w1.cell? ⟨g, 4, none⟩ = some (.string i.scope) := by simp [World.cell?, hh]
    clear hs hh
    go_wp2_with fail
    go_ret2
    exact ⟨ret_sb (scopeOf_some HS.out).symm (some_is HS.out).symm, HB.out⟩
set_option maxHeartbeats 800000 in
set_option maxRecDepth 1000000 in
theorem sscope_any (p : ByteArray) (a : Int) (w : World) (hp : p.size ≤ 1048576) : Calls Try.prog 27 #[.string p, .int .i64 a] w fun e w' => e = .returned (.tuple #[.string (scopeOf p a), .bool (FindAt p a).isSome]) ∧ Below w.heap.size w w' := by
  go_enter Try.func27, Try.ntmps27
  go_wp2_with fail
  refine (at_any p a w hp).mono ?_
  rintro e w1 ⟨hb, h⟩
  have HB := Lib.hid hb
  have HA := Lib.hid (fun o => hb.trans ((below_of (World.grownBy_alloc w1 o none)).mono hb.size))
  clear hb
  rcases h with ⟨hs, rfl⟩ | ⟨i, A, n, c, hs, rfl⟩
  · have HS := Lib.hid hs
    clear hs
    unfold zeroSix
    go_wp2_with fail
    go_ret2
    exact ⟨ret_sb (scopeOf_none HS.out).symm (none_is HS.out).symm, HA.out _⟩
  · have HS := Lib.hid hs
    clear hs
    go_wp2_with fail
    go_ret2
    exact ⟨ret_sb (scopeOf_some HS.out).symm (some_is HS.out).symm, HA.out _⟩

/-! ### StepAt -/
def stepOf (p : ByteArray) (a : Int) : ByteArray := match FindAt p a with
  | none => ⟨#[]⟩
  | some i => p.extract i.at_ i.end_
theorem stepOf_some {p : ByteArray} {a : Int} {i : Inf} (h : FindAt p a = some i) : stepOf p a = p.extract i.at_ i.end_ := by unfold stepOf; rw [h]
theorem stepOf_none {p : ByteArray} {a : Int} (h : FindAt p a = none) : stepOf p a = ⟨#[]⟩ := by unfold stepOf; rw [h]
set_option maxHeartbeats 800000 in
set_option maxRecDepth 1000000 in
theorem istepat_any (p : ByteArray) (a : Int) (w : World) (hp : p.size ≤ 1048576) : Calls Try.prog 30 #[.string p, .int .i64 a] w fun e w' => e = .returned (.tuple #[.string (stepOf p a), .bool (FindAt p a).isSome]) ∧ Below w.heap.size w w' := by
  go_enter Try.func30, Try.ntmps30
  go_wp2_with fail
  refine (ifind_any p a w hp).mono ?_
  rintro e w1 ⟨hb, h⟩
  have HB := Lib.hid hb
  clear hb
  rcases h with ⟨hs, rfl⟩ | ⟨i, g, A, n, c, hs, rfl, hh⟩
  · have HS := Lib.hid hs
    clear hs
    go_wp2_with fail
    go_ret2
    exact ⟨ret_sb (stepOf_none HS.out).symm (none_is HS.out).symm, HB.out⟩
  · have HS := Lib.hid hs
    have hg := find_good hs
    have hk1 : w1.cell? ⟨g, 1, none⟩ = some (.int .i64 i.at_) := by simp [World.cell?, hh]
    have hk2 : w1.cell? ⟨g, 2, none⟩ = some (.int .i64 i.end_) := by simp [World.cell?, hh]
    have b1 := hg.lt
    have b2 := hg.le
    have b3 : (i.at_ : Int) ≤ (i.end_ : Int) := by omega
    have b4 : (i.end_ : Int) ≤ (p.size : Int) := by omega
    clear hs hh hg
    go_wp2_with fail
    go_quiet (fail)
    go_wp2_with fail
    go_ret2
    exact ⟨ret_sb (by rw [stepOf_some HS.out]) (some_is HS.out).symm, HB.out.trans (below_of (grown_drewN w1 _ none) |>.mono HB.out.size)⟩
set_option maxHeartbeats 800000 in
set_option maxRecDepth 1000000 in
theorem sstepat_any (p : ByteArray) (a : Int) (w : World) (hp : p.size ≤ 1048576) : Calls Try.prog 29 #[.string p, .int .i64 a] w fun e w' => e = .returned (.tuple #[.string (stepOf p a), .bool (FindAt p a).isSome]) ∧ Below w.heap.size w w' := by
  go_enter Try.func29, Try.ntmps29
  go_wp2_with fail
  refine (at_any p a w hp).mono ?_
  rintro e w1 ⟨hb, h⟩
  have HA := Lib.hid (fun o => hb.trans ((below_of (World.grownBy_alloc w1 o none)).mono hb.size))
  clear hb
  rcases h with ⟨hs, rfl⟩ | ⟨i, A, n, c, hs, rfl⟩
  · have HS := Lib.hid hs
    clear hs
    unfold zeroSix
    go_wp2_with fail
    go_ret2
    exact ⟨ret_sb (stepOf_none HS.out).symm (none_is HS.out).symm, HA.out _⟩
  · have HS := Lib.hid hs
    have hg := find_good hs
    have b1 := hg.lt
    have b2 := hg.le
    have b3 : (i.at_ : Int) ≤ (i.end_ : Int) := by omega
    have b4 : (i.end_ : Int) ≤ (p.size : Int) := by omega
    clear hs hg
    go_wp2_with fail
    go_ret2
    exact ⟨ret_sb (by rw [stepOf_some HS.out]) (some_is HS.out).symm, HA.out _⟩

/-! ### NeedOf -/
theorem need_61 {i : Inf} (h : i.kind = 61) : need i = i.vars.extract 1 i.vars.size := by unfold need; rw [if_pos h]
theorem need_one {i : Inf} (h : i.kind = 46 ∨ i.kind = 45) : need i = i.vars := by
  unfold need
  rw [if_neg (by rcases h with h | h <;> rw [h] <;> decide), if_pos h]
theorem need_no {i : Inf} (h1 : i.kind ≠ 61) (h : ¬ (i.kind = 46 ∨ i.kind = 45)) : need i = ⟨#[]⟩ := by
  unfold need
  rw [if_neg h1, if_neg h]
theorem ret_str {a b : ByteArray} (h : a = b) : Ending.returned (.string a) = .returned (.string b) := by rw [h]
theorem kind_ne {c : UInt8} {d : UInt8} {x : Int} (hd : (d.toNat : Int) = x) (h : c ≠ d) : ((c.toNat : Int) == x) = false := by
  rw [beq_eq_false_iff_ne, ← hd]
  intro e
  exact h ((byte_eq c d).1 e)
theorem kind_is {c : UInt8} {d : UInt8} {x : Int} (hd : (d.toNat : Int) = x) (h : c = d) : ((c.toNat : Int) == x) = true := by rw [h, hd]; simp
set_option maxHeartbeats 800000 in
theorem l4need_any (i : Inf) (bs : Value) (A : Option Addr) (n c : Nat) (hbs : bs = .slice A n c) (w : World) (h1 : i.kind = 61 → i.vars.size = 2) :
    Calls Try.prog 50 #[.agg #[.int .u8 i.kind.toNat, .int .i64 i.at_, .int .i64 i.end_, .string i.vars, bs, .string i.scope]] w fun e w' => e = .returned (.string (need i)) ∧ Below w.heap.size w w' := by
  subst hbs
  by_cases k1 : i.kind = 61
  · have hs := h1 k1
    have g1 := kind_is (show (61 : UInt8).toNat = (61 : Int) from rfl) k1
    have HN := Lib.hid (need_61 k1)
    have b1 : 1 ≤ i.vars.size := by omega
    have b2 : (1 : Int) ≤ (i.vars.size : Int) := by omega
    clear hs k1 h1
    go_enter Try.func50, Try.ntmps50
    go_wp2_with fail
    go_ret
    exact ⟨ret_str (by rw [HN.out]), below_of (World.grownBy_alloc w _ none)⟩
  · have g1 := kind_ne (show (61 : UInt8).toNat = (61 : Int) from rfl) k1
    by_cases k2 : i.kind = 46
    · have g2 := kind_is (show (46 : UInt8).toNat = (46 : Int) from rfl) k2
      have HN := Lib.hid (need_one (.inl k2))
      clear k1 k2 h1
      go_enter Try.func50, Try.ntmps50
      go_wp2_with fail
      go_ret
      exact ⟨ret_str HN.out.symm, below_of (World.grownBy_alloc w _ none)⟩
    · have g2 := kind_ne (show (46 : UInt8).toNat = (46 : Int) from rfl) k2
      by_cases k3 : i.kind = 45
      · have g3 := kind_is (show (45 : UInt8).toNat = (45 : Int) from rfl) k3
        have HN := Lib.hid (need_one (.inr k3))
        clear k1 k2 k3 h1
        go_enter Try.func50, Try.ntmps50
        go_wp2_with fail
        go_ret
        exact ⟨ret_str HN.out.symm, below_of (World.grownBy_alloc w _ none)⟩
      · have g3 := kind_ne (show (45 : UInt8).toNat = (45 : Int) from rfl) k3
        have HN := Lib.hid (need_no k1 (by rintro (h | h); exact k2 h; exact k3 h))
        clear k1 k2 k3 h1
        go_enter Try.func50, Try.ntmps50
        go_wp2_with fail
        go_ret
        exact ⟨ret_str HN.out.symm, below_of (World.grownBy_alloc w _ none)⟩
theorem extract_whole (s : ByteArray) : s.extract 0 s.size = s := by
  apply ByteArray.ext
  simp
theorem need_two {i : Inf} (h : i.kind = 61) (hs : i.vars.size = 2) : need i = i.vars.extract 1 2 := by rw [need_61 h, hs]
theorem need_only {i : Inf} (h : i.kind = 46 ∨ i.kind = 45) (hs : i.vars.size = 1) : need i = i.vars.extract 0 1 := by
  rw [need_one h]
  have := extract_whole i.vars
  rw [hs] at this
  exact this.symm
set_option maxHeartbeats 800000 in
theorem needs_any (i : Inf) (w : World) (g : Nat) (A : Option Addr) (n c : Nat) (hh : w.heap[g]? = some (.cells #[.int .u8 i.kind.toNat, .int .i64 i.at_, .int .i64 i.end_, .string i.vars, .string i.scope, .slice A n c] 60 (0, 0))) (h1 : i.kind = 61 → i.vars.size = 2) (h2 : i.kind = 46 ∨ i.kind = 45 → i.vars.size = 1) :
    Calls Try.prog 51 #[.pointer (some ⟨g, 0, none⟩)] w fun e w' => e = .returned (.string (need i)) ∧ ∃ k, w' = w.drewN k := by
  have c0 : w.cell? ⟨g, 0, none⟩ = some (.int .u8 i.kind.toNat) := by simp [World.cell?, hh]
  have c3 : w.cell? ⟨g, 3, none⟩ = some (.string i.vars) := by simp [World.cell?, hh]
  clear hh
  by_cases k1 : i.kind = 61
  · have g1 := kind_is (show (61 : UInt8).toNat = (61 : Int) from rfl) k1
    have hsz := h1 k1
    have hn := need_two k1 hsz
    have HN := Lib.hid hn
    clear hn k1 h1 h2
    go_enter Try.func51, Try.ntmps51
    go_wp2_with fail
    go_quiet (fail)
    go_wp2_with fail
    go_ret
    exact ⟨ret_str (by rw [HN.out]), _, rfl⟩
  · have g1 := kind_ne (show (61 : UInt8).toNat = (61 : Int) from rfl) k1
    by_cases k2 : i.kind = 46
    · have g2 := kind_is (show (46 : UInt8).toNat = (46 : Int) from rfl) k2
      have hsz := h2 (.inl k2)
      have hn := need_only (.inl k2) hsz
      have HN := Lib.hid hn
      clear hn k1 k2 h1 h2
      go_enter Try.func51, Try.ntmps51
      go_wp2_with fail
      go_quiet (fail)
      go_wp2_with fail
      go_ret
      exact ⟨ret_str (by rw [HN.out]), _, rfl⟩
    · have g2 := kind_ne (show (46 : UInt8).toNat = (46 : Int) from rfl) k2
      by_cases k3 : i.kind = 45
      · have g3 := kind_is (show (45 : UInt8).toNat = (45 : Int) from rfl) k3
        have hsz := h2 (.inr k3)
        have hn := need_only (.inr k3) hsz
        have HN := Lib.hid hn
        clear hn k1 k2 k3 h1 h2
        go_enter Try.func51, Try.ntmps51
        go_wp2_with fail
        go_quiet (fail)
        go_wp2_with fail
        go_ret
        exact ⟨ret_str (by rw [HN.out]), _, rfl⟩
      · have g3 := kind_ne (show (45 : UInt8).toNat = (45 : Int) from rfl) k3
        have HN := Lib.hid (need_no k1 (by rintro (h | h); exact k2 h; exact k3 h))
        clear k1 k2 k3 h1 h2
        go_enter Try.func51, Try.ntmps51
        go_wp2_with fail
        go_ret
        exact ⟨ret_str HN.out.symm, 0, rfl⟩
end Go.Proofs.Ytopgkaekbbaglaa
