/- The reference's reader of events, in plain Lean: cutting, numbers, and that it tells what the program's tells. -/
import Derived.Test.YtmhagppajcidcaaDoorTold
import Derived.Test.YtmhagppajcidcaaDoorPB
import Derived.Test.YtmhagppajcidcaaDoorQ46
import Derived.Test.YtmhagppajcidcaaDoorQ48
import Derived.Test.YtmhagppajcidcaaDoorQ49
import Derived.Lib.SplitLaws
import Derived.Lib.IndexBytes
import Derived.Lib.Replace
import Derived.Test.YtmhagppajcidcaaDoorQ47
import Derived.Lib.ItoaNum
import Derived.Lib.AtoiAllCases
import Derived.Test.YtmhagppajcidcaaDoorQ28
namespace Go.Proofs.YtmhagppajcidcaaDoor.Pr
open Go.RowKit Go.Proofs.YtmhagppajcidcaaDoorW.PrintWords Go.Proofs.YtmhagppajcidcaaDoorW.PrintLast
theorem in_ev (l : List Int) (n : Int) (hl : l.length ≤ 1000000) : ∀ (m i : Nat), i + m = l.length → Ev (fun k => spec_l7In.l0 k n l (l.length : Int) i) (decide (n ∈ l.drop i))
  | 0, i, h => by
    refine Ev.step (f := fun _ => some (decide (n ∈ l.drop i))) (fun k => ?_) (Ev.now _)
    show spec_l7In.l0 (k + 1) n l l.length i = _
    rw [spec_l7In.l0, if_neg (by omega), List.drop_of_length_le (by omega)]
    simp
  | m + 1, i, h => by
    have hi : i < l.length := by omega
    rw [List.drop_eq_getElem_cons hi]
    by_cases hx : l[i] = n
    · refine Ev.step (f := fun _ => some (decide (n ∈ l[i] :: l.drop (i + 1)))) (fun k => ?_) (Ev.now _)
      show spec_l7In.l0 (k + 1) n l l.length i = _
      rw [spec_l7In.l0, if_pos (by omega), if_pos (by omega), if_pos (by omega), if_pos (by unfold rd; simp [hi, hx])]
      simp [hx]
    · refine Ev.step (f := fun k => spec_l7In.l0 k n l l.length ((i + 1 : Nat) : Int)) (fun k => ?_) ?_
      · show spec_l7In.l0 (k + 1) n l l.length i = _
        rw [spec_l7In.l0, if_pos (by omega), if_pos (by omega), if_pos (by omega), if_neg (by unfold rd; simp [hi, hx]), wrap_small (by omega) (by omega)]
        rfl
      · have := in_ev l n hl m (i + 1) (by omega)
        have e : decide (n ∈ l[i] :: l.drop (i + 1)) = decide (n ∈ l.drop (i + 1)) := by
          simp only [List.mem_cons, show ¬ n = l[i] from fun e => hx e.symm, false_or]
        rw [e]
        exact this
theorem l7In_ev (l : List Int) (n : Int) (hl : l.length ≤ 1000000) : Ev (fun k => spec_l7In.f k l n) (decide (n ∈ l)) := by
  have := in_ev l n hl l.length 0 (by omega)
  simpa [spec_l7In.f] using this
theorem without_ev (l : List Int) (n : Int) (hl : l.length ≤ 1000000) : ∀ (m i : Nat) (acc : List Int), acc.length ≤ i → i + m = l.length → Ev (fun k => spec_l7Without.l0 k n acc l (l.length : Int) i) (acc ++ (l.drop i).filter (fun y => y != n))
  | 0, i, acc, ha, h => by
    refine Ev.step (f := fun _ => some (acc ++ (l.drop i).filter (fun y => y != n))) (fun k => ?_) (Ev.now _)
    show spec_l7Without.l0 (k + 1) n acc l l.length i = _
    rw [spec_l7Without.l0, if_neg (by omega), List.drop_of_length_le (by omega)]
    simp
  | m + 1, i, acc, ha, h => by
    have hi : i < l.length := by omega
    rw [List.drop_eq_getElem_cons hi]
    by_cases hx : l[i] = n
    · refine Ev.step (f := fun k => spec_l7Without.l0 k n acc l l.length ((i + 1 : Nat) : Int)) (fun k => ?_) ?_
      · show spec_l7Without.l0 (k + 1) n acc l l.length i = _
        rw [spec_l7Without.l0, if_pos (by omega), if_pos (by omega), if_pos (by omega), if_pos (by unfold rd; simp [hi, hx]), wrap_small (by omega) (by omega)]
        rfl
      · have := without_ev l n hl m (i + 1) acc (by omega) (by omega)
        rw [List.filter_cons_of_neg (by simp [hx])]
        exact this
    · refine Ev.step (f := fun k => spec_l7Without.l0 k n (acc ++ [l[i]]) l l.length ((i + 1 : Nat) : Int)) (fun k => ?_) ?_
      · show spec_l7Without.l0 (k + 1) n acc l l.length i = _
        rw [spec_l7Without.l0, if_pos (by omega), if_pos (by omega), if_pos (by omega), if_neg (by unfold rd; simp [hi, hx]), if_pos (by omega), wrap_small (by omega) (by omega), show rd l (i : Int) = l[i] by unfold rd; simp [hi]]
        rfl
      · have := without_ev l n hl m (i + 1) (acc ++ [l[i]]) (by simp; omega) (by omega)
        rw [List.filter_cons_of_pos (by simp [hx])]
        simpa using this
theorem l7Without_ev (l : List Int) (n : Int) (hl : l.length ≤ 1000000) : Ev (fun k => spec_l7Without.f k l n) (l.filter (fun y => y != n)) := by
  have := without_ev l n hl l.length 0 [] (by simp) (by omega)
  simpa [spec_l7Without.f] using this
/-- a text cut at each space -/
def pre (p : List UInt8) : List (List UInt8) → List (List UInt8)
  | [] => []
  | h :: t => (p ++ h) :: t
def cutL : List UInt8 → List (List UInt8)
  | [] => [[]]
  | c :: r => if c = 32 then [] :: cutL r else pre [c] (cutL r)
theorem pre_pre (p q : List UInt8) (X : List (List UInt8)) : pre p (pre q X) = pre (p ++ q) X := by
  cases X with
  | nil => rfl
  | cons h t => simp [pre]
theorem pre_nil (X : List (List UInt8)) : pre [] X = X := by
  cases X with
  | nil => rfl
  | cons h t => rfl
theorem bt_at (s : ByteArray) (i : Nat) (h : i < s.size) : bt s (i : Int) = ((s.data.toList[i]'(by simpa using h)).toNat : Int) := by
  unfold bt
  simp only [Int.toNat_natCast]
  rw [dif_pos h]
  rfl
theorem cut_ev (s : ByteArray) (hs : s.size ≤ 1048576) : ∀ (m i fr : Nat) (acc : List ByteArray), i + m = s.size → fr ≤ i → acc.length ≤ i →
    ∃ res, Ev (fun k => spec_l13Cut.l0 k s 32 acc (fr : Int) (i : Int)) res ∧ res.map (·.data.toList) = acc.map (·.data.toList) ++ pre ((s.data.toList.drop fr).take (i - fr)) (cutL (s.data.toList.drop i))
  | 0, i, fr, acc, h, hf, ha => by
    refine ⟨acc ++ [s.extract fr i], ?_, ?_⟩
    · refine Ev.step (f := fun k => spec_l13Cut.l0 k s 32 (acc ++ [s.extract fr i]) ((i + 1 : Nat) : Int) ((i + 1 : Nat) : Int)) (fun k => ?_) ?_
      · show spec_l13Cut.l0 (k + 1) s 32 acc fr i = _
        rw [spec_l13Cut.l0, if_pos (by omega), if_pos (by omega), if_pos (by omega), if_pos (by omega), if_pos (by omega), wrap_small (by omega) (by omega)]
        rfl
      · refine Ev.step (f := fun _ => some (acc ++ [s.extract fr i])) (fun k => ?_) (Ev.now _)
        show spec_l13Cut.l0 (k + 1) s 32 (acc ++ [s.extract fr i]) _ _ = _
        rw [spec_l13Cut.l0, if_neg (by omega)]
    · rw [List.drop_of_length_le (i := i) (by simp; omega)]
      simp [cutL, pre]
  | m + 1, i, fr, acc, h, hf, ha => by
    have hi : i < s.size := by omega
    have hil : i < s.data.toList.length := by simpa using hi
    rw [List.drop_eq_getElem_cons hil, cutL]
    by_cases hc : s.data.toList[i] = 32
    · obtain ⟨res, h1, h2⟩ := cut_ev s hs m (i + 1) (i + 1) (acc ++ [s.extract fr i]) (by omega) (by omega) (by simp; omega)
      refine ⟨res, ?_, ?_⟩
      · refine Ev.step (f := fun k => spec_l13Cut.l0 k s 32 (acc ++ [s.extract fr i]) ((i + 1 : Nat) : Int) ((i + 1 : Nat) : Int)) (fun k => ?_) h1
        show spec_l13Cut.l0 (k + 1) s 32 acc fr i = _
        rw [spec_l13Cut.l0, if_pos (by omega), if_neg (by omega), if_pos (by omega), if_pos (by omega), if_pos (by rw [bt_at s i hi, hc]; rfl), if_pos (by omega), if_pos (by omega), if_pos (by omega), wrap_small (by omega) (by omega)]
        rfl
      · rw [h2, if_pos hc]
        rw [Nat.sub_self, List.take_zero, pre_nil]
        simp [pre]
    · obtain ⟨res, h1, h2⟩ := cut_ev s hs m (i + 1) fr acc (by omega) (by omega) (by omega)
      refine ⟨res, ?_, ?_⟩
      · refine Ev.step (f := fun k => spec_l13Cut.l0 k s 32 acc (fr : Int) ((i + 1 : Nat) : Int)) (fun k => ?_) h1
        show spec_l13Cut.l0 (k + 1) s 32 acc fr i = _
        rw [spec_l13Cut.l0, if_pos (by omega), if_neg (by omega), if_pos (by omega), if_pos (by omega), if_neg (by rw [bt_at s i hi]; intro e; apply hc; apply UInt8.toNat_inj.1; have : (32 : UInt8).toNat = 32 := rfl; omega), wrap_small (by omega) (by omega)]
        rfl
      · rw [h2, if_neg hc, pre_pre]
        rw [show i + 1 - fr = (i - fr) + 1 by omega, List.take_add_one, List.getElem?_drop, show fr + (i - fr) = i by omega, List.getElem?_eq_getElem hil]
        rfl
theorem splitK_cut : ∀ l : List UInt8, Lib.splitK [32] 0 (Lib.count l [32]) l = cutL l
  | [] => rfl
  | c :: r => by
    have ih := splitK_cut r
    by_cases hc : c = 32
    · subst hc
      rw [Lib.count_cons_eq, Nat.add_comm, Lib.splitK, Lib.index_one, Lib.indexByte, cutL, if_pos rfl, ← ih]
      simp
    · rw [Lib.count_cons_ne _ _ _ hc, cutL, if_neg hc, ← ih]
      cases hk : Lib.count r [32] with
      | zero => rfl
      | succ k =>
        obtain ⟨i, hi⟩ := Lib.index_of_count (s := r) (old := [32]) (by omega)
        have hib : Lib.indexByte r 32 = (i : Int) := by rw [← Lib.index_one]; exact hi
        have hi2 : Lib.index (c :: r) [32] = ((i + 1 : Nat) : Int) := by
          rw [Lib.index_one, Lib.indexByte, hib]
          simp [hc]
        rw [Lib.splitK, Lib.splitK, hi, hi2, if_neg (by simp; try omega), if_neg (by simp; try omega)]
        simp [pre]
theorem bytes_lists : ∀ {xs ys : List ByteArray}, xs.map (·.data.toList) = ys.map (·.data.toList) → xs = ys
  | [], [], _ => rfl
  | [], _ :: _, h => by cases h
  | _ :: _, [], h => by cases h
  | x :: xs, y :: ys, h => by
    simp only [List.map_cons, List.cons.injEq] at h
    rw [bytes_lists h.2, ByteArray.ext (Array.ext' h.1)]
theorem l13Cut_ev (s : ByteArray) (hs : s.size ≤ 1048576) : Ev (fun k => spec_l13Cut.f k s 32) (pieces s) := by
  obtain ⟨res, h1, h2⟩ := cut_ev s hs s.size 0 0 [] (by omega) (by omega) (by simp)
  have e : res = pieces s := by
    apply bytes_lists
    rw [h2]
    unfold pieces
    rw [Lib.splitB_data]
    simp only [List.map_nil, List.nil_append, Nat.sub_self, List.take_zero, pre_nil, List.drop_zero]
    exact (splitK_cut _).symm
  subst e
  exact h1
end Go.Proofs.YtmhagppajcidcaaDoor.Pr
namespace Go.Proofs.YtmhagppajcidcaaDoor.Pr
open Go.RowKit Go.Proofs.YtmhagppajcidcaaDoorW.PrintWords Go.Proofs.YtmhagppajcidcaaDoorW.PrintLast
def valN : Nat → List UInt8 → Option Nat
  | acc, [] => some acc
  | acc, c :: r => if 48 ≤ c.toNat ∧ c.toNat ≤ 57 then valN (acc * 10 + (c.toNat - 48)) r else none
theorem valN_snoc (c : UInt8) : ∀ (l : List UInt8) (a : Nat), valN a (l ++ [c]) = (valN a l).bind fun v => if 48 ≤ c.toNat ∧ c.toNat ≤ 57 then some (v * 10 + (c.toNat - 48)) else none
  | [], a => by simp [valN]
  | d :: r, a => by
    rw [List.cons_append, valN, valN]
    by_cases h : 48 ≤ d.toNat ∧ d.toNat ≤ 57
    · rw [if_pos h, if_pos h, valN_snoc c r]
    · rw [if_neg h, if_neg h]; rfl
theorem ofNat_digit {d : Nat} (h : d < 10) : (UInt8.ofNat (48 + d)).toNat = 48 + d := by
  rw [UInt8.toNat_ofNat']
  omega
theorem val_dec (u : Nat) : valN 0 (Lib.decDigits u) = some u := by
  induction u using Nat.strongRecOn with
  | _ u ih =>
    rw [Lib.decDigits]
    by_cases h : u < 10
    · rw [dif_pos h, valN, ofNat_digit h, if_pos (by omega), valN]
      congr 1
      omega
    · rw [dif_neg h, valN_snoc, ih (u / 10) (by omega), Option.bind_some, ofNat_digit (by omega), if_pos (by omega)]
      congr 1
      omega
theorem head_dec (u : Nat) (hu : 1 ≤ u) : ∃ c r, Lib.decDigits u = c :: r ∧ 49 ≤ c.toNat ∧ c.toNat ≤ 57 := by
  induction u using Nat.strongRecOn with
  | _ u ih =>
    rw [Lib.decDigits]
    by_cases h : u < 10
    · rw [dif_pos h]
      exact ⟨_, _, rfl, by rw [ofNat_digit h]; omega, by rw [ofNat_digit h]; omega⟩
    · rw [dif_neg h]
      obtain ⟨c, r, h1, h2, h3⟩ := ih (u / 10) (by omega) (by omega)
      exact ⟨c, _, by rw [h1]; rfl, h2, h3⟩
theorem len_dec (u : Nat) (hu : u ≤ 601) : (Lib.decDigits u).length ≤ 3 := by
  rw [Lib.decDigits_length, Lib.nDigits]
  split
  · omega
  · rw [Lib.nDigits]
    split
    · omega
    · rw [Lib.nDigits]
      split
      · omega
      · omega
theorem canon : ∀ (n : Nat) (l : List UInt8) (v : Nat), l.length = n → valN 0 l = some v → (∃ c r, l = c :: r ∧ 49 ≤ c.toNat) → l = Lib.decDigits v := by
  intro n
  induction n with
  | zero =>
    intro l v hl _ hc
    obtain ⟨c, r, rfl, _⟩ := hc
    simp at hl
  | succ n ih =>
    intro l v hl hv hc
    rcases List.eq_nil_or_concat l with rfl | ⟨l', c, rfl⟩
    · simp at hl
    · rw [List.concat_eq_append] at *
      rw [valN_snoc] at hv
      cases hv' : valN 0 l' with
      | none => rw [hv'] at hv; cases hv
      | some v' =>
        rw [hv', Option.bind_some] at hv
        split at hv
        · rename_i hd
          injection hv with hv
          cases l' with
          | nil =>
            obtain ⟨c1, r1, h1, h2⟩ := hc
            simp only [List.nil_append, List.cons.injEq] at h1
            simp only [valN, Option.some.injEq] at hv'
            subst hv'
            rw [Lib.decDigits_one (by omega)]
            rw [List.nil_append]
            congr 1
            apply UInt8.toNat_inj.1
            rw [ofNat_digit (by omega)]
            omega
          | cons c1 r1 =>
            have hc' : ∃ c r, c1 :: r1 = c :: r ∧ 49 ≤ c.toNat := by
              obtain ⟨c2, r2, h1, h2⟩ := hc
              simp only [List.cons_append, List.cons.injEq] at h1
              exact ⟨c1, r1, rfl, by rw [h1.1]; exact h2⟩
            have e := ih (c1 :: r1) v' (by simp at hl ⊢; exact hl) hv' hc'
            have hv1 : 1 ≤ v' := by
              apply Decidable.byContradiction
              intro hz
              have : v' = 0 := by omega
              subst this
              rw [Lib.decDigits_one (by omega)] at e
              obtain ⟨c2, r2, h1, h2⟩ := hc'
              rw [e] at h1
              simp only [List.cons.injEq] at h1
              rw [← h1.1] at h2
              exact absurd h2 (by decide)
            have e2 : Lib.decDigits v = Lib.decDigits (v / 10) ++ [UInt8.ofNat (48 + v % 10)] := by
              conv => lhs; rw [Lib.decDigits]
              rw [dif_neg (by omega)]
            rw [e, e2, show v / 10 = v' by omega]
            congr 2
            apply UInt8.toNat_inj.1
            rw [ofNat_digit (by omega)]
            omega
        · cases hv
def numRes (neg : Bool) : Option Nat → Int × Bool
  | none => (0, false)
  | some v => (if neg then -(v : Int) else v, true)
theorem num_l0 (s : ByteArray) (hs : s.size ≤ 17) (neg : Bool) : ∀ (m i acc : Nat), i + m = s.size → acc < 10 ^ i → Ev (fun k => spec_l13Num.l0 k s neg (acc : Int) (i : Int)) (numRes neg (valN acc (s.data.toList.drop i)))
  | 0, i, acc, h, hb => by
    have hp : (10 : Nat) ^ i ≤ 10 ^ 17 := Nat.pow_le_pow_right (by decide) (by omega)
    refine Ev.step (f := fun _ => some (numRes neg (valN acc (s.data.toList.drop i)))) (fun k => ?_) (Ev.now _)
    show spec_l13Num.l0 (k + 1) s neg acc i = _
    rw [spec_l13Num.l0, if_neg (by omega), List.drop_of_length_le (by simp; omega), valN, wrap_small (by omega) (by omega)]
    cases neg <;> rfl
  | m + 1, i, acc, h, hb => by
    have hi : i < s.size := by omega
    have hil : i < s.data.toList.length := by simpa using hi
    have hp : (10 : Nat) ^ i ≤ 10 ^ 17 := Nat.pow_le_pow_right (by decide) (by omega)
    have hu : (s.data.toList[i]).toNat < 256 := UInt8.toNat_lt _
    rw [List.drop_eq_getElem_cons hil, valN]
    generalize hc : s.data.toList[i] = c at *
    have hbt : bt s (i : Int) = (c.toNat : Int) := by rw [bt_at s i hi, hc]
    by_cases h1 : c.toNat < 48
    · refine Ev.step (f := fun _ => some ((0 : Int), false)) (fun k => ?_) ?_
      · show spec_l13Num.l0 (k + 1) s neg acc i = _
        rw [spec_l13Num.l0, if_pos (by omega), if_pos (by omega), if_pos (by rw [hbt]; omega)]
      · rw [if_neg (by omega)]
        exact Ev.now _
    · by_cases h2 : 57 < c.toNat
      · refine Ev.step (f := fun _ => some ((0 : Int), false)) (fun k => ?_) ?_
        · show spec_l13Num.l0 (k + 1) s neg acc i = _
          rw [spec_l13Num.l0, if_pos (by omega), if_pos (by omega), if_neg (by rw [hbt]; omega), if_pos (by rw [hbt]; omega)]
        · rw [if_neg (by omega)]
          exact Ev.now _
      · rw [if_pos (by omega)]
        have hpw : (10 : Nat) ^ (i + 1) = 10 ^ i * 10 := Nat.pow_succ ..
        refine Ev.step (f := fun k => spec_l13Num.l0 k s neg ((acc * 10 + (c.toNat - 48) : Nat) : Int) ((i + 1 : Nat) : Int)) (fun k => ?_) (num_l0 s hs neg m (i + 1) _ (by omega) (by omega))
        show spec_l13Num.l0 (k + 1) s neg acc i = _
        rw [spec_l13Num.l0, if_pos (by omega), if_pos (by omega), if_neg (by rw [hbt]; omega), if_neg (by rw [hbt]; omega), hbt, wrap_small (n := (acc : Int) * 10) (by omega) (by omega), wrap_small (n := (acc : Int) * 10 + _) (by omega) (by omega), wrap_small (n := (i : Int) + 1) (by omega) (by omega), show (acc : Int) * 10 + ((c.toNat : Int) - 48) % 256 = ((acc * 10 + (c.toNat - 48) : Nat) : Int) by omega]
        rfl
theorem num_j2 (s : ByteArray) (neg : Bool) : Ev (fun k => spec_l13Num.j2 k s neg true) (0, false) :=
  Ev.step (f := fun _ => some (0, false)) (fun k => by show spec_l13Num.j2 (k + 1) s neg true = _; rw [spec_l13Num.j2, if_pos rfl]) (Ev.now _)
theorem num_j2' (s : ByteArray) (neg : Bool) (hs : s.size ≤ 17) : Ev (fun k => spec_l13Num.j2 k s neg false) (numRes neg (valN 0 s.data.toList)) :=
  Ev.step (f := fun k => spec_l13Num.l0 k s neg 0 0) (fun k => by show spec_l13Num.j2 (k + 1) s neg false = _; rw [spec_l13Num.j2, if_neg (by decide)]) (num_l0 s hs neg s.size 0 0 (by omega) (by decide))
/-- a text without its sign: nothing, or the number of a text that begins with no nought (but '0') -/
theorem num_j1 (s : ByteArray) (neg : Bool) : ∃ x : Int × Bool, Ev (fun k => spec_l13Num.j1 k s neg) x ∧
    (x = (0, false) ∧ (∀ m : Nat, 1 ≤ m → m ≤ 601 → s.data.toList ≠ Lib.decDigits m) ∨
     x = numRes neg (valN 0 s.data.toList) ∧ (s.data.toList = [48] ∨ ∃ c r, s.data.toList = c :: r ∧ c.toNat ≠ 48)) := by
  have hlen : s.data.toList.length = s.size := Array.length_toList
  by_cases h0 : s.size = 0
  · refine ⟨(0, false), Ev.step (f := fun k => spec_l13Num.j2 k s neg true) (fun k => ?_) (num_j2 s neg), .inl ⟨rfl, fun m hm1 hm2 e => ?_⟩⟩
    · show spec_l13Num.j1 (k + 1) s neg = _
      rw [spec_l13Num.j1, if_pos (by omega)]
    · obtain ⟨c, r, h1, _⟩ := head_dec m hm1
      rw [e, h1] at hlen
      simp at hlen
      omega
  · by_cases h17 : 17 < s.size
    · refine ⟨(0, false), Ev.step (f := fun k => spec_l13Num.j2 k s neg true) (fun k => ?_) (num_j2 s neg), .inl ⟨rfl, fun m hm1 hm2 e => ?_⟩⟩
      · show spec_l13Num.j1 (k + 1) s neg = _
        rw [spec_l13Num.j1, if_neg (by omega), if_pos (by omega)]
      · have := len_dec m hm2
        rw [e] at hlen
        omega
    · obtain ⟨c, r, hcr⟩ : ∃ c r, s.data.toList = c :: r := by
        cases hl : s.data.toList with
        | nil => rw [hl] at hlen; simp at hlen; omega
        | cons c r => exact ⟨c, r, rfl⟩
      have hbt : bt s 0 = (c.toNat : Int) := by
        have := bt_at s 0 (by omega)
        simp only [hcr, List.getElem_cons_zero] at this
        exact this
      by_cases h48 : c.toNat = 48
      · by_cases h1 : s.size = 1
        · cases r with
          | cons d r => rw [hcr] at hlen; simp at hlen; omega
          | nil =>
            have hc48 : c = 48 := UInt8.toNat_inj.1 h48
            cases neg with
            | true =>
              refine ⟨(0, false), Ev.step (f := fun k => spec_l13Num.j2 k s true true) (fun k => ?_) (num_j2 s true), .inl ⟨rfl, fun m hm1 hm2 e => ?_⟩⟩
              · show spec_l13Num.j1 (k + 1) s true = _
                rw [spec_l13Num.j1, if_neg (by omega), if_neg (by omega), if_pos (by omega), if_pos (by rw [hbt]; omega), if_neg (by omega)]
              · obtain ⟨c', r', h1', h2', _⟩ := head_dec m hm1
                rw [hcr, h1'] at e
                simp only [List.cons.injEq] at e
                rw [← e.1] at h2'
                omega
            | false =>
              refine ⟨_, Ev.step (f := fun k => spec_l13Num.j2 k s false false) (fun k => ?_) (num_j2' s false (by omega)), .inr ⟨rfl, .inl (by rw [hcr, hc48])⟩⟩
              show spec_l13Num.j1 (k + 1) s false = _
              rw [spec_l13Num.j1, if_neg (by omega), if_neg (by omega), if_pos (by omega), if_pos (by rw [hbt]; omega), if_neg (by omega)]
        · refine ⟨(0, false), Ev.step (f := fun k => spec_l13Num.j2 k s neg true) (fun k => ?_) (num_j2 s neg), .inl ⟨rfl, fun m hm1 hm2 e => ?_⟩⟩
          · show spec_l13Num.j1 (k + 1) s neg = _
            rw [spec_l13Num.j1, if_neg (by omega), if_neg (by omega), if_pos (by omega), if_pos (by rw [hbt]; omega), if_pos (by omega)]
          · obtain ⟨c', r', h1', h2', _⟩ := head_dec m hm1
            rw [hcr, h1'] at e
            simp only [List.cons.injEq] at e
            rw [← e.1] at h2'
            omega
      · refine ⟨_, Ev.step (f := fun k => spec_l13Num.j2 k s neg false) (fun k => ?_) (num_j2' s neg (by omega)), .inr ⟨rfl, .inr ⟨c, r, hcr, h48⟩⟩⟩
        show spec_l13Num.j1 (k + 1) s neg = _
        rw [spec_l13Num.j1, if_neg (by omega), if_neg (by omega), if_pos (by omega), if_neg (by rw [hbt]; omega)]
theorem num_ev (d : ByteArray) : ∃ (n : Int) (ok : Bool), Ev (fun k => spec_l13Num.f k d) (n, ok) ∧ ∀ m : Nat, 1 ≤ m → m ≤ 601 → ((ok = true ∧ n = m) ↔ d.data.toList = Lib.decDigits m) := by
  have hlen : d.data.toList.length = d.size := Array.length_toList
  by_cases h45 : d.size > 0 ∧ bt d 0 = 45
  · obtain ⟨x, hx, hcase⟩ := num_j1 (d.extract 1 d.size) true
    refine ⟨x.1, x.2, ?_, fun m hm1 hm2 => ⟨fun h => ?_, fun h => ?_⟩⟩
    · refine Ev.congr (f := fun k => spec_l13Num.j0 k d true) (fun k => ?_) (Ev.step (f := fun k => spec_l13Num.j1 k (d.extract 1 d.size) true) (fun k => ?_) hx)
      · show spec_l13Num.f k d = _
        unfold spec_l13Num.f
        rw [if_pos (by omega), if_pos (by omega), h45.2]
        rfl
      · show spec_l13Num.j0 (k + 1) d true = _
        rw [spec_l13Num.j0, if_pos rfl, if_pos (by omega)]
    · exfalso
      rcases hcase with ⟨e, _⟩ | ⟨e, _⟩
      · rw [e] at h; exact absurd h.1 (by decide)
      · rw [e] at h
        cases hv : valN 0 (d.extract 1 d.size).data.toList with
        | none => rw [hv] at h; exact absurd h.1 (by decide)
        | some v =>
          rw [hv] at h
          have := h.2
          simp only [numRes, if_true] at this
          omega
    · exfalso
      obtain ⟨c, r, h1, h2, h3⟩ := head_dec m hm1
      have := bt_at d 0 (by omega)
      simp only [h, h1, List.getElem_cons_zero] at this
      have hb : bt d 0 = (c.toNat : Int) := this
      omega
  · obtain ⟨x, hx, hcase⟩ := num_j1 d false
    refine ⟨x.1, x.2, ?_, fun m hm1 hm2 => ⟨fun h => ?_, fun h => ?_⟩⟩
    · refine Ev.congr (f := fun k => spec_l13Num.j0 k d false) (fun k => ?_) (Ev.step (f := fun k => spec_l13Num.j1 k d false) (fun k => ?_) hx)
      · show spec_l13Num.f k d = _
        unfold spec_l13Num.f
        by_cases hz : d.size > 0
        · rw [if_pos (by omega), if_pos (by omega), show (bt d 0 == 45) = false from beq_eq_false_iff_ne.2 (fun e => h45 ⟨hz, e⟩)]
        · rw [if_neg (by omega)]
      · show spec_l13Num.j0 (k + 1) d false = _
        rw [spec_l13Num.j0, if_neg (by decide)]
    · rcases hcase with ⟨e, _⟩ | ⟨e, hc⟩
      · rw [e] at h; exact absurd h.1 (by decide)
      · rw [e] at h
        cases hv : valN 0 d.data.toList with
        | none => rw [hv] at h; exact absurd h.1 (by decide)
        | some v =>
          rw [hv] at h
          have hvm : v = m := by
            have := h.2
            simp only [numRes] at this
            simp at this
            omega
          subst hvm
          rcases hc with hc | ⟨c, r, hcr, hne⟩
          · rw [hc] at hv
            simp [valN] at hv
            omega
          · refine canon _ _ _ rfl hv ⟨c, r, hcr, ?_⟩
            rw [hcr, valN] at hv
            split at hv
            · omega
            · cases hv
    · rcases hcase with ⟨_, hn⟩ | ⟨e, _⟩
      · exact absurd h (hn m hm1 hm2)
      · rw [e, h, val_dec]
        exact ⟨rfl, rfl⟩
theorem valN_le : ∀ (l : List UInt8) (a v : Nat), valN a l = some v → a ≤ v
  | [], a, v, h => by simp only [valN, Option.some.injEq] at h; omega
  | c :: r, a, v, h => by
    rw [valN] at h
    split at h
    · have := valN_le r _ v h
      omega
    · cases h
theorem parse_val : ∀ (l : List UInt8) (a v : Nat), valN a l = some v → v ≤ 1000000 → Lib.parseUint10 a l = .ok v
  | [], a, v, h, hv => by
    simp only [valN, Option.some.injEq] at h
    rw [Lib.parseUint10, h]
  | c :: r, a, v, h, hv => by
    rw [valN] at h
    split at h
    · rename_i hc
      have := valN_le r _ v h
      rw [Lib.parseUint10, if_pos hc, if_neg (by omega), if_neg (by omega)]
      exact parse_val r _ v h hv
    · cases h
theorem numOf_iff (s : ByteArray) (m : Nat) (h1 : 1 ≤ m) (h2 : m ≤ 601) : numOf s = some (m : Int) ↔ (dig s).data.toList = Lib.decDigits m := by
  have hit : Lib.itoa (m : Int) = Lib.decDigits m := Lib.itoa_nonneg m
  constructor
  · intro h
    unfold numOf at h
    split at h
    · rename_i n hn
      split at h
      · rename_i he
        injection h with h
        rw [h, hit] at he
        exact he.symm
      · cases h
    · cases h
  · intro h
    have ha : Lib.atoiAll (dig s).data.toList = .ok (m : Int) := by
      rw [h]
      obtain ⟨c, r, e1, e2, e3⟩ := head_dec m h1
      have hp : Lib.parseMag (Lib.decDigits m) = .ok m := by
        unfold Lib.parseMag
        rw [if_neg (by rw [e1]; simp)]
        exact parse_val _ 0 m (val_dec m) (by omega)
      rw [e1] at hp ⊢
      rw [Lib.atoiAll_plain c r (by omega) (by omega), hp]
      unfold Lib.signless
      simp
      omega
    unfold numOf
    rw [ha]
    simp only []
    rw [if_pos (by rw [hit, h])]
end Go.Proofs.YtmhagppajcidcaaDoor.Pr
namespace Go.Proofs.YtmhagppajcidcaaDoor.Pr
open Go.RowKit Go.Proofs.YtmhagppajcidcaaDoorW.PrintWords Go.Proofs.YtmhagppajcidcaaDoorW.PrintLast
def conv (e : S50) : S52 := ⟨bt e.f0 0, e.f1⟩
def readRes : Option Tst → List S52 × Bool
  | none => ([], false)
  | some st => (st.out.map conv, true)
structure StOk (st : Tst) : Prop where
  len : st.out.length ≤ 600
  made0 : 0 ≤ st.made
  made : st.made ≤ st.out.length
  live : st.live.length ≤ st.out.length
  range : ∀ x ∈ st.live, 1 ≤ x ∧ x ≤ st.made
theorem sgn_at {s : ByteArray} {c : UInt8} {r : List UInt8} (h : s.data.toList = c :: r) : (sgn s).toList = [c] := by
  rw [Lib.toList_data]
  unfold sgn
  simp [h]
theorem bt_head {s : ByteArray} {c : UInt8} {r : List UInt8} (h : s.data.toList = c :: r) : bt s 0 = (c.toNat : Int) := by
  have hl : 0 < s.size := by
    have : s.data.toList.length = s.size := Array.length_toList
    rw [h] at this
    simp at this
    omega
  have := bt_at s 0 hl
  simp only [h, List.getElem_cons_zero] at this
  exact this
theorem bt_sgn {s : ByteArray} {c : UInt8} {r : List UInt8} (h : s.data.toList = c :: r) : bt (sgn s) 0 = bt s 0 := by
  have h2 := sgn_at h
  rw [Lib.toList_data] at h2
  rw [bt_head h2, bt_head h]
theorem byte_eq {c d : UInt8} : c = d ↔ (c.toNat : Int) = d.toNat := by
  constructor
  · rintro rfl; rfl
  · intro h; apply UInt8.toNat_inj.1; omega
theorem tsign_in {st : Tst} {s : ByteArray} {n : Int} {st' : Tst} (hst : StOk st) (h : tsign st s n = some st') : 1 ≤ n ∧ n ≤ 601 := by
  have h1 := hst.len
  have h2 := hst.made
  have h3 := hst.made0
  unfold tsign at h
  split at h
  · rename_i hc; omega
  · split at h
    · rename_i hc; have := hst.range n hc.2; omega
    · split at h
      · rename_i hc; have := hst.range n hc.2; omega
      · cases h
theorem tsign_ok {st : Tst} {s : ByteArray} {n : Int} {st' : Tst} (hst : StOk st) (h6 : st.out.length < 600) (h : tsign st s n = some st') : StOk st' := by
  obtain ⟨k1, k2, k3, k4, k5⟩ := hst
  unfold tsign at h
  split at h
  · rename_i hc
    injection h with h
    subst h
    refine ⟨by simp; omega, by dsimp only; omega, by simp; omega, by simp; omega, fun x hx => ?_⟩
    rcases List.mem_append.1 hx with hx | hx
    · have := k5 x hx; dsimp only; omega
    · have := List.mem_singleton.1 hx; dsimp only; omega
  · split at h
    · injection h with h
      subst h
      exact ⟨by simp; omega, k2, by simp; omega, by simp; omega, k5⟩
    · split at h
      · injection h with h
        subst h
        refine ⟨by simp; omega, k2, by simp; omega, ?_, fun x hx => k5 x (List.mem_filter.1 hx).1⟩
        have := List.length_filter_le (fun y => y != n) st.live
        simp only [List.length_append, List.length_singleton]
        omega
      · cases h
theorem tstep_none {st : Tst} {s : ByteArray} {n : Int} {ok : Bool} (hst : StOk st) (hiff : ∀ m : Nat, 1 ≤ m → m ≤ 601 → ((ok = true ∧ n = m) ↔ (dig s).data.toList = Lib.decDigits m)) (h : ok = true → tsign st s n = none) : tstep st s = none := by
  unfold tstep
  split
  · rfl
  · split
    · rfl
    · rename_i n' hn
      split
      · rfl
      · cases ht : tsign st s n' with
        | none => rfl
        | some st' =>
          obtain ⟨a, b⟩ := tsign_in hst ht
          obtain ⟨m, rfl⟩ := Int.eq_ofNat_of_zero_le (show 0 ≤ n' by omega)
          obtain ⟨x, y⟩ := (hiff m (by omega) (by omega)).2 ((numOf_iff s m (by omega) (by omega)).1 hn)
          rw [y] at h
          rw [h x] at ht
          cases ht
theorem tstep_some {st : Tst} {s : ByteArray} {n : Int} {st' : Tst} (hst : StOk st) (hs : s.size ≠ 0) (h6 : st.out.length ≠ 600) (hiff : ∀ m : Nat, 1 ≤ m → m ≤ 601 → ((true = true ∧ n = m) ↔ (dig s).data.toList = Lib.decDigits m)) (h : tsign st s n = some st') : tstep st s = some st' := by
  obtain ⟨a, b⟩ := tsign_in hst h
  obtain ⟨m, rfl⟩ := Int.eq_ofNat_of_zero_le (show 0 ≤ n by omega)
  unfold tstep
  rw [if_neg hs, (numOf_iff s m (by omega) (by omega)).2 ((hiff m (by omega) (by omega)).1 ⟨rfl, rfl⟩)]
  simp only []
  rw [if_neg h6, h]
theorem toList_nil {s : ByteArray} : s.toList = ([] : List UInt8) ↔ s.size = 0 := by
  have h : s.data.toList.length = s.size := Array.length_toList
  rw [Lib.toList_data, ← h]
  exact List.length_eq_zero_iff.symm
set_option maxHeartbeats 1000000 in
theorem read_ev (ws : List ByteArray) (hws : ws.length ≤ 1048577) : ∀ (m i : Nat) (st : Tst), i + m = ws.length → StOk st →
    Ev (fun k => spec_l7Read.l0 k (st.out.map conv) st.made st.live ws (ws.length : Int) (i : Int)) (readRes (tloop (ws.drop i) st))
  | 0, i, st, h, hst => by
    refine Ev.step (f := fun _ => some (st.out.map conv, true)) (fun k => ?_) ?_
    · show spec_l7Read.l0 (k + 1) _ _ _ ws _ _ = _
      rw [spec_l7Read.l0, if_neg (by omega)]
    · rw [tloop_end (by omega)]
      exact Ev.now _
  | m + 1, i, st, h, hst => by
    have hi : i < ws.length := by omega
    rw [tloop_drop hi]
    have hrd : rdOf ByteArray.empty ws (i : Int) = ws[i] := by unfold rdOf; simp [hi]
    generalize ws[i] = s at *
    have no : Ev (fun _ => some (([] : List S52), false)) (readRes none) := Ev.now _
    obtain ⟨k1, k2, k3, k4, k5⟩ := hst
    have hst : StOk st := ⟨k1, k2, k3, k4, k5⟩
    have hml : (st.out.map conv).length = st.out.length := List.length_map ..
    by_cases hbad : s.size = 0 ∨ st.out.length = 600
    · have hts : tstep st s = none := by
        unfold tstep
        rcases hbad with hb | hb
        · rw [if_pos hb]
        · split
          · rfl
          · split
            · rfl
            · first | rfl | rw [if_pos hb]
      rw [hts]
      refine Ev.step (f := fun k => spec_l7Read.j1 k (st.out.map conv) st.made st.live s ws (ws.length : Int) (i : Int) true) (fun k => ?_) (Ev.step (f := fun _ => some (([] : List S52), false)) (fun k => ?_) no)
      · show spec_l7Read.l0 (k + 1) _ _ _ ws _ _ = _
        rw [spec_l7Read.l0, if_pos (by omega), if_pos (by omega), if_pos (by omega), hrd]
        by_cases hz : s.size = 0
        · rw [if_pos (toList_nil.2 hz)]
        · rw [if_neg (fun e => hz (toList_nil.1 e)), hml, decide_eq_true (by omega)]
      · show spec_l7Read.j1 (k + 1) _ _ _ _ ws _ _ true = _
        rw [spec_l7Read.j1, if_pos rfl]
    · have hz : s.size ≠ 0 := fun e => hbad (.inl e)
      have h6 : st.out.length ≠ 600 := fun e => hbad (.inr e)
      obtain ⟨n, ok, hev, hiff⟩ := num_ev (dig s)
      obtain ⟨c, r, hcr⟩ : ∃ c r, s.data.toList = c :: r := by
        cases hl : s.data.toList with
        | nil => have : s.data.toList.length = s.size := Array.length_toList; rw [hl] at this; simp at this; omega
        | cons c r => exact ⟨c, r, rfl⟩
      have hsg := sgn_at hcr
      have hbh := bt_head hcr
      have hcv : ∀ n : Int, conv ⟨sgn s, n⟩ = (⟨bt s 0, n⟩ : S52) := fun n => by unfold conv; rw [bt_sgn hcr]
      refine Ev.step (f := fun k => spec_l7Read.j1 k (st.out.map conv) st.made st.live s ws (ws.length : Int) (i : Int) false) (fun k => ?_) ?_
      · show spec_l7Read.l0 (k + 1) _ _ _ ws _ _ = _
        rw [spec_l7Read.l0, if_pos (by omega), if_pos (by omega), if_pos (by omega), hrd, if_neg (fun e => hz (toList_nil.1 e)), hml, decide_eq_false (by omega)]
      · refine Ev.step (f := fun k => (spec_l13Num.f k (dig s)).bind fun b => if b.2 = true then (if bt s 0 = 43 then spec_l7Read.j2 k (st.out.map conv) st.made st.live b.1 ws (ws.length : Int) (i : Int) (b.1 == wrap64 (st.made + 1)) (bt s 0) b.1 else spec_l7Read.j2 k (st.out.map conv) st.made st.live b.1 ws (ws.length : Int) (i : Int) false (bt s 0) b.1) else some (([] : List S52), false)) (fun k => ?_) (Ev.bind hev ?_)
        · show spec_l7Read.j1 (k + 1) _ _ _ _ ws _ _ false = _
          rw [spec_l7Read.j1, if_neg (by decide), if_pos (by omega)]
          simp only [if_pos (show (0 : Int) < (s.size : Int) by omega)]
          rfl
        · -- the step
          have next : ∀ st', tsign st s n = some st' → ok = true → Ev (fun k => spec_l7Read.l0 k (st'.out.map conv) st'.made st'.live ws (ws.length : Int) ((i + 1 : Nat) : Int)) (readRes (match tstep st s with | none => none | some st' => tloop (ws.drop (i + 1)) st')) := by
            intro st' ht hok
            subst hok
            rw [tstep_some hst hz h6 hiff ht]
            exact read_ev ws hws m (i + 1) st' (by omega) (tsign_ok hst (by omega) ht)
          have stop : (ok = true → tsign st s n = none) → Ev (fun _ => some (([] : List S52), false)) (readRes (match tstep st s with | none => none | some st' => tloop (ws.drop (i + 1)) st')) := by
            intro ht
            rw [tstep_none hst hiff ht]
            exact no
          cases ok with
          | false =>
            refine Ev.congr (f := fun _ => some (([] : List S52), false)) (fun k => ?_) (stop (fun e => by cases e))
            simp
          | true =>
            have hlv : st.live.length ≤ 1000000 := by omega
            have mapc : ∀ n : Int, (st.out ++ [(⟨sgn s, n⟩ : S50)]).map conv = st.out.map conv ++ [(⟨bt s 0, n⟩ : S52)] := fun n => by rw [List.map_append, List.map_cons, List.map_nil, hcv]
            have hwi : wrap64 ((i : Int) + 1) = ((i + 1 : Nat) : Int) := by rw [wrap_small (by omega) (by omega)]; rfl
            by_cases c43 : c = 43
            · have b43 : bt s 0 = 43 := by rw [hbh, c43]; rfl
              by_cases hn : n = st.made + 1
              · have ht : tsign st s n = some ⟨st.out ++ [⟨sgn s, n⟩], st.made + 1, st.live ++ [n]⟩ := by unfold tsign; rw [if_pos ⟨by rw [hsg, c43], hn⟩]
                have N := next _ ht rfl
                refine Ev.congr (f := fun k => spec_l7Read.j2 k (st.out.map conv) st.made st.live n ws (ws.length : Int) (i : Int) true (bt s 0) n) (fun k => ?_) (Ev.step (fun k => ?_) N)
                · dsimp only
                  rw [if_pos rfl, if_pos b43, show (n == wrap64 (st.made + 1)) = true by rw [wrap_small (by omega) (by omega)]; exact beq_iff_eq.2 hn]
                · show spec_l7Read.j2 (k + 1) _ _ _ _ ws _ _ true _ _ = _
                  rw [spec_l7Read.j2, if_pos rfl, if_pos (by omega), if_pos (by rw [hml]; omega), hwi, mapc, ← hn]
              · have ht : tsign st s n = none := by
                  unfold tsign
                  rw [if_neg (fun h => hn h.2), if_neg (fun h => by rw [hsg, c43] at h; exact absurd h.1 (by decide)), if_neg (fun h => by rw [hsg, c43] at h; exact absurd h.1 (by decide))]
                refine Ev.congr (f := fun k => spec_l7Read.j2 k (st.out.map conv) st.made st.live n ws (ws.length : Int) (i : Int) false (bt s 0) n) (fun k => ?_) (Ev.step (f := fun k => spec_l7Read.j3 k (st.out.map conv) st.made st.live n ws (ws.length : Int) (i : Int) false (bt s 0) n) (fun k => ?_) (Ev.step (fun k => ?_) (stop (fun _ => ht))))
                · dsimp only
                  rw [if_pos rfl, if_pos b43, show (n == wrap64 (st.made + 1)) = false by rw [wrap_small (by omega) (by omega)]; exact beq_eq_false_iff_ne.2 hn]
                · show spec_l7Read.j2 (k + 1) _ _ _ _ ws _ _ false _ _ = _
                  rw [spec_l7Read.j2, if_neg (by decide), if_neg (by omega)]
                · show spec_l7Read.j3 (k + 1) _ _ _ _ ws _ _ false _ _ = _
                  rw [spec_l7Read.j3, if_neg (by decide), if_neg (by omega)]
            · have b43 : ¬ bt s 0 = 43 := fun e => c43 (byte_eq.2 (by rw [← hbh, e]; rfl))
              have n43 : ¬ ((sgn s).toList = [43] ∧ n = st.made + 1) := fun h => c43 (by rw [hsg] at h; exact (List.cons.inj h.1).1)
              refine Ev.congr (f := fun k => spec_l7Read.j2 k (st.out.map conv) st.made st.live n ws (ws.length : Int) (i : Int) false (bt s 0) n) (fun k => by dsimp only; rw [if_pos rfl, if_neg b43]) ?_
              by_cases c46 : c = 46
              · have b46 : bt s 0 = 46 := by rw [hbh, c46]; rfl
                refine Ev.step (f := fun k => (spec_l7In.f k st.live n).bind fun t => spec_l7Read.j3 k (st.out.map conv) st.made st.live n ws (ws.length : Int) (i : Int) t (bt s 0) n) (fun k => ?_) (Ev.bind (l7In_ev st.live n hlv) ?_)
                · show spec_l7Read.j2 (k + 1) _ _ _ _ ws _ _ false _ _ = _
                  rw [spec_l7Read.j2, if_neg (by decide), if_pos b46]
                · by_cases hliv : n ∈ st.live
                  · have ht : tsign st s n = some ⟨st.out ++ [⟨sgn s, n⟩], st.made, st.live⟩ := by unfold tsign; rw [if_neg n43, if_pos ⟨by rw [hsg, c46], hliv⟩]
                    have N := next _ ht rfl
                    refine Ev.step (fun k => ?_) N
                    show spec_l7Read.j3 (k + 1) _ _ _ _ ws _ _ (decide (n ∈ st.live)) _ _ = _
                    rw [spec_l7Read.j3, decide_eq_true hliv, if_pos rfl, if_pos (by rw [hml]; omega), hwi, mapc]
                  · have ht : tsign st s n = none := by unfold tsign; rw [if_neg n43, if_neg (fun h => hliv h.2), if_neg (fun h => hliv h.2)]
                    refine Ev.step (fun k => ?_) (stop (fun _ => ht))
                    show spec_l7Read.j3 (k + 1) _ _ _ _ ws _ _ (decide (n ∈ st.live)) _ _ = _
                    rw [spec_l7Read.j3, decide_eq_false hliv, if_neg (by decide), if_neg (by omega)]
              · have b46 : ¬ bt s 0 = 46 := fun e => c46 (byte_eq.2 (by rw [← hbh, e]; rfl))
                have n46 : ¬ ((sgn s).toList = [46] ∧ n ∈ st.live) := fun h => c46 (by rw [hsg] at h; exact (List.cons.inj h.1).1)
                refine Ev.step (f := fun k => spec_l7Read.j3 k (st.out.map conv) st.made st.live n ws (ws.length : Int) (i : Int) false (bt s 0) n) (fun k => ?_) ?_
                · show spec_l7Read.j2 (k + 1) _ _ _ _ ws _ _ false _ _ = _
                  rw [spec_l7Read.j2, if_neg (by decide), if_neg b46]
                · by_cases c45 : c = 45
                  · have b45 : bt s 0 = 45 := by rw [hbh, c45]; rfl
                    by_cases hliv : n ∈ st.live
                    · have ht : tsign st s n = some ⟨st.out ++ [⟨sgn s, n⟩], st.made, st.live.filter (fun y => y != n)⟩ := by unfold tsign; rw [if_neg n43, if_neg n46, if_pos ⟨by rw [hsg, c45], hliv⟩]
                      have N := next _ ht rfl
                      refine Ev.step (f := fun k => (spec_l7In.f k st.live n).bind fun t238 => (if t238 = true then ((spec_l7Without.f k st.live n).bind fun t239 => (if (st.out.map conv).length < 8796093022208 then (spec_l7Read.l0 k (st.out.map conv ++ [(⟨bt s 0, n⟩ : S52)]) st.made t239 ws (ws.length : Int) (wrap64 ((i : Int) + 1))) else (none))) else (some ((([] : List (S52))), false)))) (fun k => ?_) (Ev.bind (l7In_ev st.live n hlv) ?_)
                      · show spec_l7Read.j3 (k + 1) _ _ _ _ ws _ _ false _ _ = _
                        rw [spec_l7Read.j3, if_neg (by decide), if_pos b45]
                      · refine Ev.congr (fun k => ?_) (Ev.bind (f := fun k t239 => spec_l7Read.l0 k (st.out.map conv ++ [(⟨bt s 0, n⟩ : S52)]) st.made t239 ws (ws.length : Int) ((i + 1 : Nat) : Int)) (l7Without_ev st.live n hlv) ?_)
                        · try dsimp only
                          rw [decide_eq_true hliv, if_pos rfl]
                          simp only [if_pos (show (st.out.map conv).length < 8796093022208 by rw [hml]; omega), hwi]
                        · dsimp only at N
                          rw [mapc] at N
                          exact N
                    · have ht : tsign st s n = none := by unfold tsign; rw [if_neg n43, if_neg n46, if_neg (fun h => hliv h.2)]
                      refine Ev.step (f := fun k => (spec_l7In.f k st.live n).bind fun t238 => (if t238 = true then ((spec_l7Without.f k st.live n).bind fun t239 => (if (st.out.map conv).length < 8796093022208 then (spec_l7Read.l0 k (st.out.map conv ++ [(⟨bt s 0, n⟩ : S52)]) st.made t239 ws (ws.length : Int) (wrap64 ((i : Int) + 1))) else (none))) else (some ((([] : List (S52))), false)))) (fun k => ?_) (Ev.bind (l7In_ev st.live n hlv) (Ev.congr (fun k => ?_) (stop (fun _ => ht))))
                      · show spec_l7Read.j3 (k + 1) _ _ _ _ ws _ _ false _ _ = _
                        rw [spec_l7Read.j3, if_neg (by decide), if_pos b45]
                      · try dsimp only
                        rw [decide_eq_false hliv, if_neg (by decide)]
                  · have b45 : ¬ bt s 0 = 45 := fun e => c45 (byte_eq.2 (by rw [← hbh, e]; rfl))
                    have ht : tsign st s n = none := by unfold tsign; rw [if_neg n43, if_neg n46, if_neg (fun h => c45 (by rw [hsg] at h; exact (List.cons.inj h.1).1))]
                    refine Ev.step (fun k => ?_) (stop (fun _ => ht))
                    show spec_l7Read.j3 (k + 1) _ _ _ _ ws _ _ false _ _ = _
                    rw [spec_l7Read.j3, if_neg (by decide), if_neg b45]
theorem l7Read_ev (a0 : ByteArray) (hs : a0.size ≤ 1048576) : Ev (fun k => spec_l7Read.f k a0) ((toldOf a0).1.map conv, (toldOf a0).2.2) := by
  by_cases h : a0.toList = [45]
  · refine Ev.congr (f := fun _ => some (([] : List S52), true)) (fun k => ?_) ?_
    · unfold spec_l7Read.f
      rw [Option.bind_some, if_pos h]
    · unfold toldOf
      rw [if_pos h]
      exact Ev.now _
  · have hpl := pieces_length a0
    have hc := Lib.countB_le ⟨#[32]⟩ (by decide) a0.size a0 (Nat.le_refl _)
    have R := read_ev (pieces a0) (by omega) (pieces a0).length 0 ⟨[], 0, []⟩ (by omega) ⟨by simp, by simp, by simp, by simp, by simp⟩
    refine Ev.congr (f := fun k => (spec_l13Cut.f k a0 32).bind fun t => spec_l7Read.l0 k [] 0 [] t (t.length : Int) 0) (fun k => ?_) (Ev.bind (l13Cut_ev a0 hs) ?_)
    · unfold spec_l7Read.f
      rw [Option.bind_some, if_neg h]
    · unfold toldOf
      rw [if_neg h]
      rw [List.drop_zero] at R
      cases ht : tloop (pieces a0) ⟨[], 0, []⟩ with
      | none => rw [ht] at R; exact R
      | some st => rw [ht] at R; exact R
end Go.Proofs.YtmhagppajcidcaaDoor.Pr
