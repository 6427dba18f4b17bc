/- The reference's reader of a number, in plain Lean: it tells a small number just where its digits stand. -/
import Derived.Test.YtlikgaohcnbocaaDoorPEva
import Derived.Test.YtlikgaohcnbocaaDoorQ57
import Derived.Lib.ItoaNum
import Derived.Lib.AtoiAllCases
namespace Go.Proofs.YtlikgaohcnbocaaDoor.Pr
open Go.RowKit Go.Proofs.YtlikgaohcnbocaaDoorW.PrintWords Go.Proofs.YtlikgaohcnbocaaDoorW.PrintLast
def valN : Nat → List UInt8 → Option Nat
  | acc, [] => some acc
  | acc, c :: r => if 48 ≤ c.toNat ∧ c.toNat ≤ 57 then valN (acc * 10 + (c.toNat - 48)) r else none
theorem valN_snoc (c : UInt8) : ∀ (l : List UInt8) (a : Nat), valN a (l ++ [c]) = (valN a l).bind fun v => if 48 ≤ c.toNat ∧ c.toNat ≤ 57 then some (v * 10 + (c.toNat - 48)) else none
  | [], a => by simp [valN]
  | d :: r, a => by
    rw [List.cons_append, valN, valN]
    by_cases h : 48 ≤ d.toNat ∧ d.toNat ≤ 57
    · rw [if_pos h, if_pos h, valN_snoc c r]
    · rw [if_neg h, if_neg h]; rfl
theorem ofNat_digit {d : Nat} (h : d < 10) : (UInt8.ofNat (48 + d)).toNat = 48 + d := by
  rw [UInt8.toNat_ofNat']
  omega
theorem val_dec (u : Nat) : valN 0 (Lib.decDigits u) = some u := by
  induction u using Nat.strongRecOn with
  | _ u ih =>
    rw [Lib.decDigits]
    by_cases h : u < 10
    · rw [dif_pos h, valN, ofNat_digit h, if_pos (by omega), valN]
      congr 1
      omega
    · rw [dif_neg h, valN_snoc, ih (u / 10) (by omega), Option.bind_some, ofNat_digit (by omega), if_pos (by omega)]
      congr 1
      omega
theorem head_dec (u : Nat) (hu : 1 ≤ u) : ∃ c r, Lib.decDigits u = c :: r ∧ 49 ≤ c.toNat ∧ c.toNat ≤ 57 := by
  induction u using Nat.strongRecOn with
  | _ u ih =>
    rw [Lib.decDigits]
    by_cases h : u < 10
    · rw [dif_pos h]
      exact ⟨_, _, rfl, by rw [ofNat_digit h]; omega, by rw [ofNat_digit h]; omega⟩
    · rw [dif_neg h]
      obtain ⟨c, r, h1, h2, h3⟩ := ih (u / 10) (by omega) (by omega)
      exact ⟨c, _, by rw [h1]; rfl, h2, h3⟩
theorem len_dec (u : Nat) (hu : u ≤ 601) : (Lib.decDigits u).length ≤ 3 := by
  rw [Lib.decDigits_length, Lib.nDigits]
  split
  · omega
  · rw [Lib.nDigits]
    split
    · omega
    · rw [Lib.nDigits]
      split
      · omega
      · omega
theorem canon : ∀ (n : Nat) (l : List UInt8) (v : Nat), l.length = n → valN 0 l = some v → (∃ c r, l = c :: r ∧ 49 ≤ c.toNat) → l = Lib.decDigits v := by
  intro n
  induction n with
  | zero =>
    intro l v hl _ hc
    obtain ⟨c, r, rfl, _⟩ := hc
    simp at hl
  | succ n ih =>
    intro l v hl hv hc
    rcases List.eq_nil_or_concat l with rfl | ⟨l', c, rfl⟩
    · simp at hl
    · rw [List.concat_eq_append] at *
      rw [valN_snoc] at hv
      cases hv' : valN 0 l' with
      | none => rw [hv'] at hv; cases hv
      | some v' =>
        rw [hv', Option.bind_some] at hv
        split at hv
        · rename_i hd
          injection hv with hv
          cases l' with
          | nil =>
            obtain ⟨c1, r1, h1, h2⟩ := hc
            simp only [List.nil_append, List.cons.injEq] at h1
            simp only [valN, Option.some.injEq] at hv'
            subst hv'
            rw [Lib.decDigits_one (by omega)]
            rw [List.nil_append]
            congr 1
            apply UInt8.toNat_inj.1
            rw [ofNat_digit (by omega)]
            omega
          | cons c1 r1 =>
            have hc' : ∃ c r, c1 :: r1 = c :: r ∧ 49 ≤ c.toNat := by
              obtain ⟨c2, r2, h1, h2⟩ := hc
              simp only [List.cons_append, List.cons.injEq] at h1
              exact ⟨c1, r1, rfl, by rw [h1.1]; exact h2⟩
            have e := ih (c1 :: r1) v' (by simp at hl ⊢; exact hl) hv' hc'
            have hv1 : 1 ≤ v' := by
              apply Decidable.byContradiction
              intro hz
              have : v' = 0 := by omega
              subst this
              rw [Lib.decDigits_one (by omega)] at e
              obtain ⟨c2, r2, h1, h2⟩ := hc'
              rw [e] at h1
              simp only [List.cons.injEq] at h1
              rw [← h1.1] at h2
              exact absurd h2 (by decide)
            have e2 : Lib.decDigits v = Lib.decDigits (v / 10) ++ [UInt8.ofNat (48 + v % 10)] := by
              conv => lhs; rw [Lib.decDigits]
              rw [dif_neg (by omega)]
            rw [e, e2, show v / 10 = v' by omega]
            congr 2
            apply UInt8.toNat_inj.1
            rw [ofNat_digit (by omega)]
            omega
        · cases hv
def numRes (neg : Bool) : Option Nat → Int × Bool
  | none => (0, false)
  | some v => (if neg then -(v : Int) else v, true)
theorem num_l0 (s : ByteArray) (hs : s.size ≤ 17) (neg : Bool) : ∀ (m i acc : Nat), i + m = s.size → acc < 10 ^ i → Ev (fun k => spec_l13Num.l0 k s neg (acc : Int) (i : Int)) (numRes neg (valN acc (s.data.toList.drop i)))
  | 0, i, acc, h, hb => by
    have hp : (10 : Nat) ^ i ≤ 10 ^ 17 := Nat.pow_le_pow_right (by decide) (by omega)
    refine Ev.step (f := fun _ => some (numRes neg (valN acc (s.data.toList.drop i)))) (fun k => ?_) (Ev.now _)
    show spec_l13Num.l0 (k + 1) s neg acc i = _
    rw [spec_l13Num.l0, if_neg (by omega), List.drop_of_length_le (by simp; omega), valN, wrap_small (by omega) (by omega)]
    cases neg <;> rfl
  | m + 1, i, acc, h, hb => by
    have hi : i < s.size := by omega
    have hil : i < s.data.toList.length := by simpa using hi
    have hp : (10 : Nat) ^ i ≤ 10 ^ 17 := Nat.pow_le_pow_right (by decide) (by omega)
    have hu : (s.data.toList[i]).toNat < 256 := UInt8.toNat_lt _
    rw [List.drop_eq_getElem_cons hil, valN]
    generalize hc : s.data.toList[i] = c at *
    have hbt : bt s (i : Int) = (c.toNat : Int) := by rw [bt_at s i hi, hc]
    by_cases h1 : c.toNat < 48
    · refine Ev.step (f := fun _ => some ((0 : Int), false)) (fun k => ?_) ?_
      · show spec_l13Num.l0 (k + 1) s neg acc i = _
        rw [spec_l13Num.l0, if_pos (by omega), if_pos (by omega), if_pos (by rw [hbt]; omega)]
      · rw [if_neg (by omega)]
        exact Ev.now _
    · by_cases h2 : 57 < c.toNat
      · refine Ev.step (f := fun _ => some ((0 : Int), false)) (fun k => ?_) ?_
        · show spec_l13Num.l0 (k + 1) s neg acc i = _
          rw [spec_l13Num.l0, if_pos (by omega), if_pos (by omega), if_neg (by rw [hbt]; omega), if_pos (by rw [hbt]; omega)]
        · rw [if_neg (by omega)]
          exact Ev.now _
      · rw [if_pos (by omega)]
        have hpw : (10 : Nat) ^ (i + 1) = 10 ^ i * 10 := Nat.pow_succ ..
        refine Ev.step (f := fun k => spec_l13Num.l0 k s neg ((acc * 10 + (c.toNat - 48) : Nat) : Int) ((i + 1 : Nat) : Int)) (fun k => ?_) (num_l0 s hs neg m (i + 1) _ (by omega) (by omega))
        show spec_l13Num.l0 (k + 1) s neg acc i = _
        rw [spec_l13Num.l0, if_pos (by omega), if_pos (by omega), if_neg (by rw [hbt]; omega), if_neg (by rw [hbt]; omega), hbt, wrap_small (n := (acc : Int) * 10) (by omega) (by omega), wrap_small (n := (acc : Int) * 10 + _) (by omega) (by omega), wrap_small (n := (i : Int) + 1) (by omega) (by omega), show (acc : Int) * 10 + ((c.toNat : Int) - 48) % 256 = ((acc * 10 + (c.toNat - 48) : Nat) : Int) by omega]
        rfl
theorem num_j2 (s : ByteArray) (neg : Bool) : Ev (fun k => spec_l13Num.j2 k s neg true) (0, false) :=
  Ev.step (f := fun _ => some (0, false)) (fun k => by show spec_l13Num.j2 (k + 1) s neg true = _; rw [spec_l13Num.j2, if_pos rfl]) (Ev.now _)
theorem num_j2' (s : ByteArray) (neg : Bool) (hs : s.size ≤ 17) : Ev (fun k => spec_l13Num.j2 k s neg false) (numRes neg (valN 0 s.data.toList)) :=
  Ev.step (f := fun k => spec_l13Num.l0 k s neg 0 0) (fun k => by show spec_l13Num.j2 (k + 1) s neg false = _; rw [spec_l13Num.j2, if_neg (by decide)]) (num_l0 s hs neg s.size 0 0 (by omega) (by decide))
/-- a text without its sign: nothing, or the number of a text that begins with no nought (but '0') -/
theorem num_j1 (s : ByteArray) (neg : Bool) : ∃ x : Int × Bool, Ev (fun k => spec_l13Num.j1 k s neg) x ∧
    (x = (0, false) ∧ (∀ m : Nat, 1 ≤ m → m ≤ 601 → s.data.toList ≠ Lib.decDigits m) ∨
     x = numRes neg (valN 0 s.data.toList) ∧ (s.data.toList = [48] ∨ ∃ c r, s.data.toList = c :: r ∧ c.toNat ≠ 48)) := by
  have hlen : s.data.toList.length = s.size := Array.length_toList
  by_cases h0 : s.size = 0
  · refine ⟨(0, false), Ev.step (f := fun k => spec_l13Num.j2 k s neg true) (fun k => ?_) (num_j2 s neg), .inl ⟨rfl, fun m hm1 hm2 e => ?_⟩⟩
    · show spec_l13Num.j1 (k + 1) s neg = _
      rw [spec_l13Num.j1, if_pos (by omega)]
    · obtain ⟨c, r, h1, _⟩ := head_dec m hm1
      rw [e, h1] at hlen
      simp at hlen
      omega
  · by_cases h17 : 17 < s.size
    · refine ⟨(0, false), Ev.step (f := fun k => spec_l13Num.j2 k s neg true) (fun k => ?_) (num_j2 s neg), .inl ⟨rfl, fun m hm1 hm2 e => ?_⟩⟩
      · show spec_l13Num.j1 (k + 1) s neg = _
        rw [spec_l13Num.j1, if_neg (by omega), if_pos (by omega)]
      · have := len_dec m hm2
        rw [e] at hlen
        omega
    · obtain ⟨c, r, hcr⟩ : ∃ c r, s.data.toList = c :: r := by
        cases hl : s.data.toList with
        | nil => rw [hl] at hlen; simp at hlen; omega
        | cons c r => exact ⟨c, r, rfl⟩
      have hbt : bt s 0 = (c.toNat : Int) := by
        have := bt_at s 0 (by omega)
        simp only [hcr, List.getElem_cons_zero] at this
        exact this
      by_cases h48 : c.toNat = 48
      · by_cases h1 : s.size = 1
        · cases r with
          | cons d r => rw [hcr] at hlen; simp at hlen; omega
          | nil =>
            have hc48 : c = 48 := UInt8.toNat_inj.1 h48
            cases neg with
            | true =>
              refine ⟨(0, false), Ev.step (f := fun k => spec_l13Num.j2 k s true true) (fun k => ?_) (num_j2 s true), .inl ⟨rfl, fun m hm1 hm2 e => ?_⟩⟩
              · show spec_l13Num.j1 (k + 1) s true = _
                rw [spec_l13Num.j1, if_neg (by omega), if_neg (by omega), if_pos (by omega), if_pos (by rw [hbt]; omega), if_neg (by omega)]
              · obtain ⟨c', r', h1', h2', _⟩ := head_dec m hm1
                rw [hcr, h1'] at e
                simp only [List.cons.injEq] at e
                rw [← e.1] at h2'
                omega
            | false =>
              refine ⟨_, Ev.step (f := fun k => spec_l13Num.j2 k s false false) (fun k => ?_) (num_j2' s false (by omega)), .inr ⟨rfl, .inl (by rw [hcr, hc48])⟩⟩
              show spec_l13Num.j1 (k + 1) s false = _
              rw [spec_l13Num.j1, if_neg (by omega), if_neg (by omega), if_pos (by omega), if_pos (by rw [hbt]; omega), if_neg (by omega)]
        · refine ⟨(0, false), Ev.step (f := fun k => spec_l13Num.j2 k s neg true) (fun k => ?_) (num_j2 s neg), .inl ⟨rfl, fun m hm1 hm2 e => ?_⟩⟩
          · show spec_l13Num.j1 (k + 1) s neg = _
            rw [spec_l13Num.j1, if_neg (by omega), if_neg (by omega), if_pos (by omega), if_pos (by rw [hbt]; omega), if_pos (by omega)]
          · obtain ⟨c', r', h1', h2', _⟩ := head_dec m hm1
            rw [hcr, h1'] at e
            simp only [List.cons.injEq] at e
            rw [← e.1] at h2'
            omega
      · refine ⟨_, Ev.step (f := fun k => spec_l13Num.j2 k s neg false) (fun k => ?_) (num_j2' s neg (by omega)), .inr ⟨rfl, .inr ⟨c, r, hcr, h48⟩⟩⟩
        show spec_l13Num.j1 (k + 1) s neg = _
        rw [spec_l13Num.j1, if_neg (by omega), if_neg (by omega), if_pos (by omega), if_neg (by rw [hbt]; omega)]
theorem num_ev (d : ByteArray) : ∃ (n : Int) (ok : Bool), Ev (fun k => spec_l13Num.f k d) (n, ok) ∧ ∀ m : Nat, 1 ≤ m → m ≤ 601 → ((ok = true ∧ n = m) ↔ d.data.toList = Lib.decDigits m) := by
  have hlen : d.data.toList.length = d.size := Array.length_toList
  by_cases h45 : d.size > 0 ∧ bt d 0 = 45
  · obtain ⟨x, hx, hcase⟩ := num_j1 (d.extract 1 d.size) true
    refine ⟨x.1, x.2, ?_, fun m hm1 hm2 => ⟨fun h => ?_, fun h => ?_⟩⟩
    · refine Ev.congr (f := fun k => spec_l13Num.j0 k d true) (fun k => ?_) (Ev.step (f := fun k => spec_l13Num.j1 k (d.extract 1 d.size) true) (fun k => ?_) hx)
      · show spec_l13Num.f k d = _
        unfold spec_l13Num.f
        rw [if_pos (by omega), if_pos (by omega), h45.2]
        rfl
      · show spec_l13Num.j0 (k + 1) d true = _
        rw [spec_l13Num.j0, if_pos rfl, if_pos (by omega)]
    · exfalso
      rcases hcase with ⟨e, _⟩ | ⟨e, _⟩
      · rw [e] at h; exact absurd h.1 (by decide)
      · rw [e] at h
        cases hv : valN 0 (d.extract 1 d.size).data.toList with
        | none => rw [hv] at h; exact absurd h.1 (by decide)
        | some v =>
          rw [hv] at h
          have := h.2
          simp only [numRes, if_true] at this
          omega
    · exfalso
      obtain ⟨c, r, h1, h2, h3⟩ := head_dec m hm1
      have := bt_at d 0 (by omega)
      simp only [h, h1, List.getElem_cons_zero] at this
      have hb : bt d 0 = (c.toNat : Int) := this
      omega
  · obtain ⟨x, hx, hcase⟩ := num_j1 d false
    refine ⟨x.1, x.2, ?_, fun m hm1 hm2 => ⟨fun h => ?_, fun h => ?_⟩⟩
    · refine Ev.congr (f := fun k => spec_l13Num.j0 k d false) (fun k => ?_) (Ev.step (f := fun k => spec_l13Num.j1 k d false) (fun k => ?_) hx)
      · show spec_l13Num.f k d = _
        unfold spec_l13Num.f
        by_cases hz : d.size > 0
        · rw [if_pos (by omega), if_pos (by omega), show (bt d 0 == 45) = false from beq_eq_false_iff_ne.2 (fun e => h45 ⟨hz, e⟩)]
        · rw [if_neg (by omega)]
      · show spec_l13Num.j0 (k + 1) d false = _
        rw [spec_l13Num.j0, if_neg (by decide)]
    · rcases hcase with ⟨e, _⟩ | ⟨e, hc⟩
      · rw [e] at h; exact absurd h.1 (by decide)
      · rw [e] at h
        cases hv : valN 0 d.data.toList with
        | none => rw [hv] at h; exact absurd h.1 (by decide)
        | some v =>
          rw [hv] at h
          have hvm : v = m := by
            have := h.2
            simp only [numRes] at this
            simp at this
            omega
          subst hvm
          rcases hc with hc | ⟨c, r, hcr, hne⟩
          · rw [hc] at hv
            simp [valN] at hv
            omega
          · refine canon _ _ _ rfl hv ⟨c, r, hcr, ?_⟩
            rw [hcr, valN] at hv
            split at hv
            · omega
            · cases hv
    · rcases hcase with ⟨_, hn⟩ | ⟨e, _⟩
      · exact absurd h (hn m hm1 hm2)
      · rw [e, h, val_dec]
        exact ⟨rfl, rfl⟩
theorem valN_le : ∀ (l : List UInt8) (a v : Nat), valN a l = some v → a ≤ v
  | [], a, v, h => by simp only [valN, Option.some.injEq] at h; omega
  | c :: r, a, v, h => by
    rw [valN] at h
    split at h
    · have := valN_le r _ v h
      omega
    · cases h
theorem parse_val : ∀ (l : List UInt8) (a v : Nat), valN a l = some v → v ≤ 1000000 → Lib.parseUint10 a l = .ok v
  | [], a, v, h, hv => by
    simp only [valN, Option.some.injEq] at h
    rw [Lib.parseUint10, h]
  | c :: r, a, v, h, hv => by
    rw [valN] at h
    split at h
    · rename_i hc
      have := valN_le r _ v h
      rw [Lib.parseUint10, if_pos hc, if_neg (by omega), if_neg (by omega)]
      exact parse_val r _ v h hv
    · cases h
theorem numOf_iff (s : ByteArray) (m : Nat) (h1 : 1 ≤ m) (h2 : m ≤ 601) : numOf s = some (m : Int) ↔ (dig s).data.toList = Lib.decDigits m := by
  have hit : Lib.itoa (m : Int) = Lib.decDigits m := Lib.itoa_nonneg m
  constructor
  · intro h
    unfold numOf at h
    split at h
    · rename_i n hn
      split at h
      · rename_i he
        injection h with h
        rw [h, hit] at he
        exact he.symm
      · cases h
    · cases h
  · intro h
    have ha : Lib.atoiAll (dig s).data.toList = .ok (m : Int) := by
      rw [h]
      obtain ⟨c, r, e1, e2, e3⟩ := head_dec m h1
      have hp : Lib.parseMag (Lib.decDigits m) = .ok m := by
        unfold Lib.parseMag
        rw [if_neg (by rw [e1]; simp)]
        exact parse_val _ 0 m (val_dec m) (by omega)
      rw [e1] at hp ⊢
      rw [Lib.atoiAll_plain c r (by omega) (by omega), hp]
      unfold Lib.signless
      simp
      omega
    unfold numOf
    rw [ha]
    simp only []
    rw [if_pos (by rw [hit, h])]
end Go.Proofs.YtlikgaohcnbocaaDoor.Pr
