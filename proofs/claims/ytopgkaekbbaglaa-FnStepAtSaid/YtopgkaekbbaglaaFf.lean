/- Rows of numbers of the call's own: compared, marked, held. -/
import Derived.Test.YtopgkaekbbaglaaDe
namespace Go.Proofs.Ytopgkaekbbaglaa
open Go.RowKit Pl

def ints (l : List Int) : List Value := l.map (fun x => Value.int .i64 x)
theorem ints_length (l : List Int) : (ints l).length = l.length := by simp [ints]
theorem ints_at {l : List Int} {k : Nat} (hk : k < l.length) : (ints l)[k]? = some (.int .i64 l[k]) := by simp [ints, hk]
theorem ints_append (l m : List Int) : ints (l ++ m) = ints l ++ ints m := by simp [ints]
theorem ints_set (l : List Int) (k : Nat) (x : Int) : ints (l.set k x) = (ints l).set k (.int .i64 x) := by simp [ints, List.map_set]
theorem info3 : (Try.prog.info? 3).map (fun i => (i.zero, i.size, i.bytes)) = some (some (.int .i64 0), 1, 8) := by kernel_rfl
theorem Own.stored {w : World} {ok : Nat → Prop} {e : TypeId} {g n c : Nat} {xs : List Value} (h : Own w ok e (.slice (some ⟨g, 0, none⟩) n c) xs) (hn : n = xs.length) (k : Nat) (u : Value) : Own (w.setCell ⟨g, k, none⟩ u) ok e (.slice (some ⟨g, 0, none⟩) n c) (xs.set k u) := by
  subst hn
  exact ⟨by rw [List.length_set]; exact (World.ownsRow.stored h.row k u).1, h.let_⟩
theorem Own.frozen {w : World} {ok : Nat → Prop} {e : TypeId} {g n c : Nat} {xs : List Value} (h : Own w ok e (.slice (some ⟨g, 0, none⟩) n c) xs) (hn : n = xs.length) (k : Nat) : w.frozen? ⟨g, k, none⟩ = false := by
  subst hn
  exact World.ownsRow.frozenAt h.row k
theorem drewN_add' (w : World) (a b : Nat) : Below w.heap.size w ((w.drewN a).drewN b) := (World.grownBy.trans (grown_drewN w a none) (grown_drewN _ b none)) |> fun h => ⟨h.os, h.tape, h.output, h.size, fun j hj => h.block j hj (by simp)⟩

set_option maxHeartbeats 800000 in
/-- the same numbers in two rows -/
theorem eqints_same (w : World) (ok1 ok2 : Nat → Prop) (A B : Option Addr) (c d : Nat) (l : List Int) (h1 : Own w ok1 3 (.slice A l.length c) (ints l)) (h2 : Own w ok2 3 (.slice B l.length d) (ints l)) :
    Calls Try.prog 33 #[.slice A l.length c, .slice B l.length d] w fun e w' => e = .returned (.bool true) ∧ Below w.heap.size w w' := by
  have hl := h1.le
  rw [ints_length] at hl
  have g1 : ((l.length : Int) != (l.length : Int)) = false := by simp
  have H1 := Lib.hid h1
  have H2 := Lib.hid h2
  clear h1 h2
  go_enter Try.func33, Try.ntmps33
  go_wp2_with fail
  go_loopw [5] (fun i' wr => ∃ k : Nat, k ≤ l.length ∧ i' = .int .i64 k ∧ Below w.heap.size w wr) (fun i' _ => l.length - (intOf i').toNat)
  case atStart => exact ⟨0, Nat.zero_le _, rfl, Below.refl _ _⟩
  case round =>
    obtain ⟨k, hk, rfl, hbr⟩ := hrel
    have HBr := Lib.hid hbr
    by_cases hlt : k < l.length
    · obtain ⟨ga, rfl, hc0⟩ := H1.out.at (ints_length l).symm hlt
      obtain ⟨gb, rfl, hd0⟩ := H2.out.at (ints_length l).symm hlt
      rw [ints_at hlt] at hc0 hd0
      have hc := (World.cell?_of_block (hbr.block _ (World.block_lt_of_cell? w _ hc0))).trans hc0
      have hd := (World.cell?_of_block (hbr.block _ (World.block_lt_of_cell? w _ hd0))).trans hd0
      have g2 : (l[k] != l[k]) = false := by simp
      clear hc0 hd0 hbr
      generalize l[k] = x at *
      go_wp2_with fail
      go_quiet (fail)
      go_wp2_with fail
      go_roundw
      case rel => exact ⟨k + 1, hlt, by go_num, HBr.out.trans ((below_of (grown_drewN wr _ none)).mono HBr.out.size)⟩
      case measure => simp [intOf]; omega
    · have hkn : k = l.length := by omega
      subst hkn
      clear hbr
      go_wp2_with fail
      go_ret
      exact ⟨rfl, HBr.out⟩
/-- what marking lays -/
def marked (n : Nat) (k : Int) : List Int := (List.range n).map (fun (j : Nat) => k + (j : Int))
theorem marked_length (n : Nat) (k : Int) : (marked n k).length = n := by simp [marked]
theorem marked_at {n j : Nat} {k : Int} (h : j < (marked n k).length) : (marked n k)[j] = k + (j : Int) := by simp [marked]
def MarkRel (w : World) (ok : Nat → Prop) (A : Option Addr) (c : Nat) (l : List Int) (q : Int) (a i' : Value) (wr : World) : Prop :=
  ∃ k : Nat, k ≤ l.length ∧ a = .int .i64 (q + k) ∧ i' = .int .i64 k ∧ Own wr ok 3 (.slice A l.length c) (ints ((marked l.length q).take k ++ l.drop k)) ∧ Kp w wr (fun j => (Value.slice A l.length c).ownBlock = some j)
theorem mark_set {l : List Int} {q : Int} {k : Nat} (hk : k < l.length) : ((marked l.length q).take k ++ l.drop k).set k (q + (k : Int)) = (marked l.length q).take (k + 1) ++ l.drop (k + 1) := by
  have hm : k < (marked l.length q).length := by rw [marked_length]; exact hk
  rw [List.take_succ_eq_append_getElem hm, marked_at hm]
  have hl : ((marked l.length q).take k).length = k := by rw [List.length_take, marked_length]; omega
  rw [List.set_append_right _ _ (by omega), hl, Nat.sub_self, List.drop_eq_getElem_cons hk, List.set_cons_zero, List.append_assoc]
  rfl
set_option maxHeartbeats 800000 in
theorem markints_any (w : World) (ok : Nat → Prop) (A : Option Addr) (c : Nat) (l : List Int) (q : Int) (h : Own w ok 3 (.slice A l.length c) (ints l)) (hl : l.length ≤ 1048576) (hq0 : 0 ≤ q) (hq : q ≤ 1048576) :
    Calls Try.prog 34 #[.slice A l.length c, .int .i64 q] w fun e w' => e = .returned (.int .i64 (q + l.length)) ∧ Own w' ok 3 (.slice A l.length c) (ints (marked l.length q)) ∧ Kp w w' (fun j => (Value.slice A l.length c).ownBlock = some j) := by
  have H := Lib.hid h
  clear h
  go_enter Try.func34, Try.ntmps34
  go_wp2_with fail
  go_loopw [1, 5] (fun a i' wr => MarkRel w ok A c l q a i' wr) (fun _ i' _ => l.length - (intOf i').toNat)
  case atStart => exact ⟨0, Nat.zero_le _, by simp, rfl, by simpa using H.out, Kp.refl _ _⟩
  case round =>
    obtain ⟨k, hk, rfl, rfl, hO, hK⟩ := hrel
    by_cases hlt : k < l.length
    · have hlen : (ints ((marked l.length q).take k ++ l.drop k)).length = l.length := by
        rw [ints_length, List.length_append, List.length_take, List.length_drop, marked_length]
        omega
      obtain ⟨g, rfl, hc⟩ := hO.at hlen.symm hlt
      have hc2 : ∃ u, wr.cell? ⟨g, k, none⟩ = some u := ⟨_, hc.trans (List.getElem?_eq_getElem (by omega))⟩
      obtain ⟨u, hu⟩ := hc2
      have hf := hO.frozen hlen.symm k
      have hS := hO.stored hlen.symm k (.int .i64 (q + (k : Int)))
      rw [← ints_set, mark_set hlt] at hS
      have HS := Lib.hid hS
      have HK := Lib.hid (hK.trans (Kp.of_grown (grown_set wr g k (.int .i64 (q + (k : Int))))) (fun j _ hj => hj))
      clear hc hO hK hS hlen
      go_wp2_with fail
      go_roundw
      case rel => exact ⟨k + 1, hlt, by go_num, by go_num, HS.out, HK.out⟩
      case measure => simp [intOf]; omega
    · have hkn : k = l.length := by omega
      subst hkn
      have HO := Lib.hid (show Own wr ok 3 (.slice A l.length c) (ints (marked l.length q)) by
        have e : (marked l.length q).take l.length ++ l.drop l.length = marked l.length q := by
          rw [List.drop_length, List.append_nil, List.take_of_length_le (by rw [marked_length]; exact Nat.le_refl _)]
        rw [e] at hO
        exact hO)
      have HK := Lib.hid hK
      clear hO hK
      go_wp2_with fail
      go_ret
      exact ⟨rfl, HO.out, HK.out⟩
set_option maxHeartbeats 800000 in
/-- marks are held -/
theorem heldints_any (w : World) (ok : Nat → Prop) (A : Option Addr) (c n : Nat) (q : Int) (h : Own w ok 3 (.slice A n c) (ints (marked n q))) (hl : n ≤ 1048576) (hq0 : 0 ≤ q) (hq : q ≤ 1048576) :
    Calls Try.prog 35 #[.slice A n c, .int .i64 q] w fun e w' => e = .returned (.int .i64 (q + n)) ∧ w' = w := by
  have hlen : (ints (marked n q)).length = n := by rw [ints_length, marked_length]
  have H := Lib.hid h
  have HL := Lib.hid hlen
  clear h hlen
  go_enter Try.func35, Try.ntmps35
  go_wp2_with fail
  go_loop [1, 5] (fun a i' => ∃ k : Nat, k ≤ n ∧ a = .int .i64 (q + k) ∧ i' = .int .i64 k) (fun _ i' => n - (intOf i').toNat)
  case atStart => exact ⟨0, Nat.zero_le _, by simp, rfl⟩
  case round =>
    obtain ⟨k, hk, rfl, rfl⟩ := hrel
    by_cases hlt : k < n
    · obtain ⟨g, rfl, hc⟩ := H.out.at HL.out.symm hlt
      rw [ints_at (by rw [marked_length]; exact hlt), marked_at (by rw [marked_length]; exact hlt)] at hc
      have g1 : ((q + (k : Int)) != (q + (k : Int))) = false := by simp
      go_wp2_with fail
      go_round
      case rel => exact ⟨k + 1, hlt, by go_num, by go_num⟩
      case measure => simp [intOf]; omega
    · have hkn : k = n := by omega
      subst hkn
      go_wp2_with fail
      go_ret
      exact ⟨rfl, rfl⟩
end Go.Proofs.Ytopgkaekbbaglaa
