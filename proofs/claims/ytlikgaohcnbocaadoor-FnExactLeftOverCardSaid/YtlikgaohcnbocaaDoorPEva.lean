/- The reference's small readers of events, in plain Lean: membership, taking out, cutting. -/
import Derived.Test.YtlikgaohcnbocaaDoorTold
import Derived.Test.YtlikgaohcnbocaaDoorQ56
import Derived.Test.YtlikgaohcnbocaaDoorQ58
import Derived.Test.YtlikgaohcnbocaaDoorQ59
import Derived.Lib.SplitLaws
import Derived.Lib.IndexBytes
import Derived.Lib.Replace
namespace Go.Proofs.YtlikgaohcnbocaaDoor.Pr
open Go.RowKit Go.Proofs.YtlikgaohcnbocaaDoorW.PrintWords Go.Proofs.YtlikgaohcnbocaaDoorW.PrintLast
theorem wrap_small {n : Int} (h1 : -9223372036854775808 ≤ n) (h2 : n < 9223372036854775808) : wrap64 n = n := by
  unfold wrap64
  omega
theorem in_ev (l : List Int) (n : Int) (hl : l.length ≤ 1000000) : ∀ (m i : Nat), i + m = l.length → Ev (fun k => spec_l7In.l0 k n l (l.length : Int) i) (decide (n ∈ l.drop i))
  | 0, i, h => by
    refine Ev.step (f := fun _ => some (decide (n ∈ l.drop i))) (fun k => ?_) (Ev.now _)
    show spec_l7In.l0 (k + 1) n l l.length i = _
    rw [spec_l7In.l0, if_neg (by omega), List.drop_of_length_le (by omega)]
    simp
  | m + 1, i, h => by
    have hi : i < l.length := by omega
    rw [List.drop_eq_getElem_cons hi]
    by_cases hx : l[i] = n
    · refine Ev.step (f := fun _ => some (decide (n ∈ l[i] :: l.drop (i + 1)))) (fun k => ?_) (Ev.now _)
      show spec_l7In.l0 (k + 1) n l l.length i = _
      rw [spec_l7In.l0, if_pos (by omega), if_pos (by omega), if_pos (by omega), if_pos (by unfold rd; simp [hi, hx])]
      simp [hx]
    · refine Ev.step (f := fun k => spec_l7In.l0 k n l l.length ((i + 1 : Nat) : Int)) (fun k => ?_) ?_
      · show spec_l7In.l0 (k + 1) n l l.length i = _
        rw [spec_l7In.l0, if_pos (by omega), if_pos (by omega), if_pos (by omega), if_neg (by unfold rd; simp [hi, hx]), wrap_small (by omega) (by omega)]
        rfl
      · have := in_ev l n hl m (i + 1) (by omega)
        have e : decide (n ∈ l[i] :: l.drop (i + 1)) = decide (n ∈ l.drop (i + 1)) := by
          simp only [List.mem_cons, show ¬ n = l[i] from fun e => hx e.symm, false_or]
        rw [e]
        exact this
theorem l7In_ev (l : List Int) (n : Int) (hl : l.length ≤ 1000000) : Ev (fun k => spec_l7In.f k l n) (decide (n ∈ l)) := by
  have := in_ev l n hl l.length 0 (by omega)
  simpa [spec_l7In.f] using this
theorem without_ev (l : List Int) (n : Int) (hl : l.length ≤ 1000000) : ∀ (m i : Nat) (acc : List Int), acc.length ≤ i → i + m = l.length → Ev (fun k => spec_l7Without.l0 k n acc l (l.length : Int) i) (acc ++ (l.drop i).filter (fun y => y != n))
  | 0, i, acc, ha, h => by
    refine Ev.step (f := fun _ => some (acc ++ (l.drop i).filter (fun y => y != n))) (fun k => ?_) (Ev.now _)
    show spec_l7Without.l0 (k + 1) n acc l l.length i = _
    rw [spec_l7Without.l0, if_neg (by omega), List.drop_of_length_le (by omega)]
    simp
  | m + 1, i, acc, ha, h => by
    have hi : i < l.length := by omega
    rw [List.drop_eq_getElem_cons hi]
    by_cases hx : l[i] = n
    · refine Ev.step (f := fun k => spec_l7Without.l0 k n acc l l.length ((i + 1 : Nat) : Int)) (fun k => ?_) ?_
      · show spec_l7Without.l0 (k + 1) n acc l l.length i = _
        rw [spec_l7Without.l0, if_pos (by omega), if_pos (by omega), if_pos (by omega), if_pos (by unfold rd; simp [hi, hx]), wrap_small (by omega) (by omega)]
        rfl
      · have := without_ev l n hl m (i + 1) acc (by omega) (by omega)
        rw [List.filter_cons_of_neg (by simp [hx])]
        exact this
    · refine Ev.step (f := fun k => spec_l7Without.l0 k n (acc ++ [l[i]]) l l.length ((i + 1 : Nat) : Int)) (fun k => ?_) ?_
      · show spec_l7Without.l0 (k + 1) n acc l l.length i = _
        rw [spec_l7Without.l0, if_pos (by omega), if_pos (by omega), if_pos (by omega), if_neg (by unfold rd; simp [hi, hx]), if_pos (by omega), wrap_small (by omega) (by omega), show rd l (i : Int) = l[i] by unfold rd; simp [hi]]
        rfl
      · have := without_ev l n hl m (i + 1) (acc ++ [l[i]]) (by simp; omega) (by omega)
        rw [List.filter_cons_of_pos (by simp [hx])]
        simpa using this
theorem l7Without_ev (l : List Int) (n : Int) (hl : l.length ≤ 1000000) : Ev (fun k => spec_l7Without.f k l n) (l.filter (fun y => y != n)) := by
  have := without_ev l n hl l.length 0 [] (by simp) (by omega)
  simpa [spec_l7Without.f] using this
/-- a text cut at each space -/
def pre (p : List UInt8) : List (List UInt8) → List (List UInt8)
  | [] => []
  | h :: t => (p ++ h) :: t
def cutL : List UInt8 → List (List UInt8)
  | [] => [[]]
  | c :: r => if c = 32 then [] :: cutL r else pre [c] (cutL r)
theorem pre_pre (p q : List UInt8) (X : List (List UInt8)) : pre p (pre q X) = pre (p ++ q) X := by
  cases X with
  | nil => rfl
  | cons h t => simp [pre]
theorem pre_nil (X : List (List UInt8)) : pre [] X = X := by
  cases X with
  | nil => rfl
  | cons h t => rfl
theorem bt_at (s : ByteArray) (i : Nat) (h : i < s.size) : bt s (i : Int) = ((s.data.toList[i]'(by simpa using h)).toNat : Int) := by
  unfold bt
  simp only [Int.toNat_natCast]
  rw [dif_pos h]
  rfl
theorem cut_ev (s : ByteArray) (hs : s.size ≤ 1048576) : ∀ (m i fr : Nat) (acc : List ByteArray), i + m = s.size → fr ≤ i → acc.length ≤ i →
    ∃ res, Ev (fun k => spec_l13Cut.l0 k s 32 acc (fr : Int) (i : Int)) res ∧ res.map (·.data.toList) = acc.map (·.data.toList) ++ pre ((s.data.toList.drop fr).take (i - fr)) (cutL (s.data.toList.drop i))
  | 0, i, fr, acc, h, hf, ha => by
    refine ⟨acc ++ [s.extract fr i], ?_, ?_⟩
    · refine Ev.step (f := fun k => spec_l13Cut.l0 k s 32 (acc ++ [s.extract fr i]) ((i + 1 : Nat) : Int) ((i + 1 : Nat) : Int)) (fun k => ?_) ?_
      · show spec_l13Cut.l0 (k + 1) s 32 acc fr i = _
        rw [spec_l13Cut.l0, if_pos (by omega), if_pos (by omega), if_pos (by omega), if_pos (by omega), if_pos (by omega), wrap_small (by omega) (by omega)]
        rfl
      · refine Ev.step (f := fun _ => some (acc ++ [s.extract fr i])) (fun k => ?_) (Ev.now _)
        show spec_l13Cut.l0 (k + 1) s 32 (acc ++ [s.extract fr i]) _ _ = _
        rw [spec_l13Cut.l0, if_neg (by omega)]
    · rw [List.drop_of_length_le (i := i) (by simp; omega)]
      simp [cutL, pre]
  | m + 1, i, fr, acc, h, hf, ha => by
    have hi : i < s.size := by omega
    have hil : i < s.data.toList.length := by simpa using hi
    rw [List.drop_eq_getElem_cons hil, cutL]
    by_cases hc : s.data.toList[i] = 32
    · obtain ⟨res, h1, h2⟩ := cut_ev s hs m (i + 1) (i + 1) (acc ++ [s.extract fr i]) (by omega) (by omega) (by simp; omega)
      refine ⟨res, ?_, ?_⟩
      · refine Ev.step (f := fun k => spec_l13Cut.l0 k s 32 (acc ++ [s.extract fr i]) ((i + 1 : Nat) : Int) ((i + 1 : Nat) : Int)) (fun k => ?_) h1
        show spec_l13Cut.l0 (k + 1) s 32 acc fr i = _
        rw [spec_l13Cut.l0, if_pos (by omega), if_neg (by omega), if_pos (by omega), if_pos (by omega), if_pos (by rw [bt_at s i hi, hc]; rfl), if_pos (by omega), if_pos (by omega), if_pos (by omega), wrap_small (by omega) (by omega)]
        rfl
      · rw [h2, if_pos hc]
        rw [Nat.sub_self, List.take_zero, pre_nil]
        simp [pre]
    · obtain ⟨res, h1, h2⟩ := cut_ev s hs m (i + 1) fr acc (by omega) (by omega) (by omega)
      refine ⟨res, ?_, ?_⟩
      · refine Ev.step (f := fun k => spec_l13Cut.l0 k s 32 acc (fr : Int) ((i + 1 : Nat) : Int)) (fun k => ?_) h1
        show spec_l13Cut.l0 (k + 1) s 32 acc fr i = _
        rw [spec_l13Cut.l0, if_pos (by omega), if_neg (by omega), if_pos (by omega), if_pos (by omega), if_neg (by rw [bt_at s i hi]; intro e; apply hc; apply UInt8.toNat_inj.1; have : (32 : UInt8).toNat = 32 := rfl; omega), wrap_small (by omega) (by omega)]
        rfl
      · rw [h2, if_neg hc, pre_pre]
        rw [show i + 1 - fr = (i - fr) + 1 by omega, List.take_add_one, List.getElem?_drop, show fr + (i - fr) = i by omega, List.getElem?_eq_getElem hil]
        rfl
theorem splitK_cut : ∀ l : List UInt8, Lib.splitK [32] 0 (Lib.count l [32]) l = cutL l
  | [] => rfl
  | c :: r => by
    have ih := splitK_cut r
    by_cases hc : c = 32
    · subst hc
      rw [Lib.count_cons_eq, Nat.add_comm, Lib.splitK, Lib.index_one, Lib.indexByte, cutL, if_pos rfl, ← ih]
      simp
    · rw [Lib.count_cons_ne _ _ _ hc, cutL, if_neg hc, ← ih]
      cases hk : Lib.count r [32] with
      | zero => rfl
      | succ k =>
        obtain ⟨i, hi⟩ := Lib.index_of_count (s := r) (old := [32]) (by omega)
        have hib : Lib.indexByte r 32 = (i : Int) := by rw [← Lib.index_one]; exact hi
        have hi2 : Lib.index (c :: r) [32] = ((i + 1 : Nat) : Int) := by
          rw [Lib.index_one, Lib.indexByte, hib]
          simp [hc]
        rw [Lib.splitK, Lib.splitK, hi, hi2, if_neg (by simp; try omega), if_neg (by simp; try omega)]
        simp [pre]
theorem bytes_lists : ∀ {xs ys : List ByteArray}, xs.map (·.data.toList) = ys.map (·.data.toList) → xs = ys
  | [], [], _ => rfl
  | [], _ :: _, h => by cases h
  | _ :: _, [], h => by cases h
  | x :: xs, y :: ys, h => by
    simp only [List.map_cons, List.cons.injEq] at h
    rw [bytes_lists h.2, ByteArray.ext (Array.ext' h.1)]
theorem l13Cut_ev (s : ByteArray) (hs : s.size ≤ 1048576) : Ev (fun k => spec_l13Cut.f k s 32) (pieces s) := by
  obtain ⟨res, h1, h2⟩ := cut_ev s hs s.size 0 0 [] (by omega) (by omega) (by simp)
  have e : res = pieces s := by
    apply bytes_lists
    rw [h2]
    unfold pieces
    rw [Lib.splitB_data]
    simp only [List.map_nil, List.nil_append, Nat.sub_self, List.take_zero, pre_nil, List.drop_zero]
    exact (splitK_cut _).symm
  subst e
  exact h1
end Go.Proofs.YtlikgaohcnbocaaDoor.Pr
