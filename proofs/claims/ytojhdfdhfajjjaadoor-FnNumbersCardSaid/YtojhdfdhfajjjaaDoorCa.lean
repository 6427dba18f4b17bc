/- Ca: texts of this proof, joined. -/
namespace Go.Proofs.YtojhdfdhfajjjaaDoor.Pl
structure Inf where
 kind : UInt8
 at_ : Nat
 end_ : Nat
 vars : ByteArray
 scope : ByteArray
 nb : Nat
inductive T where
 | nil : T
 | cons (i : Inf) (b0 b1 rest : T) : T
def T.append : T → T → T
 | .nil, u => u
 | .cons i b0 b1 r, u => .cons i b0 b1 (r.append u)
def T.len : T → Nat
 | .nil => 0
 | .cons _ _ _ r => r.len + 1
def bAt (p : ByteArray) (n : Nat) : UInt8 := p.data.getD n 0
def isAt (p : ByteArray) (n : Nat) (c : UInt8) : Bool := decide (n < p.size) && bAt p n == c
def has (s : ByteArray) (c : UInt8) : Bool := s.data.toList.contains c
def isLet (p : ByteArray) (n : Nat) : Bool := decide (n < p.size) && (decide (97 ≤ bAt p n) && decide (bAt p n ≤ 102))
def sub1 (p : ByteArray) (n : Nat) : ByteArray := p.extract n (n + 1)
def kindsL : List UInt8 := [43, 61, 46, 45, 126, 94, 33, 63, 42, 123]
def isKind (p : ByteArray) (n : Nat) : Bool := decide (n < p.size) && kindsL.contains (bAt p n)
def many (c : UInt8) : Nat := if c = 43 ∨ c = 46 ∨ c = 45 ∨ c = 126 then 1 else if c = 61 then 2 else 0
def readVars (p ar : ByteArray) : Nat → Nat → ByteArray → Option (ByteArray × Nat)
 | 0, n, acc => some (acc, n)
 | m + 1, n, acc => if isLet p n && has ar (bAt p n) && !has acc (bAt p n) then readVars p ar m (n + 1) (acc ++ sub1 p n) else none
def declVars (p ar : ByteArray) : Nat → Nat → ByteArray → Option (ByteArray × Nat)
 | 0, n, acc => some (acc, n)
 | k + 1, n, acc => if isLet p n then (if has (ar ++ acc) (bAt p n) then none else declVars p ar k (n + 1) (acc ++ sub1 p n)) else some (acc, n)
mutual
def istep (p : ByteArray) : Nat → Nat → ByteArray → Nat → Option (Inf × T × T × Nat)
 | 0, _, _, _ => none
 | k + 1, n, ar, sc =>
  match readVars p ar (many (bAt p n)) (n + 1) ByteArray.empty with
  | none => none
  | some (vs, n1) =>
   if bAt p n = 63 then
    match ibody p k n1 ar sc with
    | none => none
    | some (b0, n2) =>
     match ibody p k n2 ar sc with
     | none => none
     | some (b1, n3) => some (⟨bAt p n, n, n3, vs, ar, 2⟩, b0, b1, n3)
   else if bAt p n = 42 then
    match ibody p k n1 ar sc with
    | none => none
    | some (b0, n2) => some (⟨bAt p n, n, n2, vs, ar, 1⟩, b0, .nil, n2)
   else if bAt p n = 123 then
    match declVars p ar (p.size - n1) n1 vs with
    | none => none
    | some (vs', n2) =>
     if vs'.size = 0 ∨ sc = 4 ∨ isAt p n2 58 = false then none
     else
      match isteps p k (n2 + 1) (ar ++ vs') (sc + 1) with
      | none => none
      | some (b0, n3) => if isAt p n3 125 then some (⟨bAt p n, n, n3 + 1, vs', ar, 1⟩, b0, .nil, n3 + 1) else none
   else some (⟨bAt p n, n, n1, vs, ar, 0⟩, .nil, .nil, n1)
def isteps (p : ByteArray) : Nat → Nat → ByteArray → Nat → Option (T × Nat)
 | 0, _, _, _ => none
 | k + 1, n, ar, sc =>
  if isKind p n then
   match istep p k n ar sc with
   | none => none
   | some (i, b0, b1, n1) =>
    match isteps p k n1 ar sc with
    | none => none
    | some (r, n2) => some (.cons i b0 b1 r, n2)
  else some (.nil, n)
def ibody (p : ByteArray) : Nat → Nat → ByteArray → Nat → Option (T × Nat)
 | 0, _, _, _ => none
 | k + 1, n, ar, sc =>
  if isAt p n 91 then
   match isteps p k (n + 1) ar sc with
   | none => none
   | some (b, m) => if isAt p m 93 then some (b, m + 1) else none
  else none
end
theorem readVars_gt {p ar : ByteArray} : ∀ {m n : Nat} {acc vs : ByteArray} {n1 : Nat}, readVars p ar m n acc = some (vs, n1) → n ≤ n1
 | 0, n, acc, vs, n1, h => by simp [readVars] at h; omega
 | m + 1, n, acc, vs, n1, h => by
  unfold readVars at h
  split at h
  ·have := readVars_gt h; omega
  ·cases h
theorem declVars_gt {p ar : ByteArray} : ∀ {k n : Nat} {acc vs : ByteArray} {n1 : Nat}, declVars p ar k n acc = some (vs, n1) → n ≤ n1
 | 0, n, acc, vs, n1, h => by simp [declVars] at h; omega
 | k + 1, n, acc, vs, n1, h => by
  unfold declVars at h
  split at h
  ·split at h
   ·cases h
   ·have := declVars_gt h; omega
  ·simp at h; omega
theorem gts (p : ByteArray) : ∀ k : Nat,
  (∀ n ar sc i b0 b1 n1, istep p k n ar sc = some (i, b0, b1, n1) → n < n1) ∧
  (∀ n ar sc t n1, isteps p k n ar sc = some (t, n1) → n ≤ n1) ∧
  (∀ n ar sc t n1, ibody p k n ar sc = some (t, n1) → n < n1) := by
 intro k
 induction k with
 | zero => exact ⟨fun _ _ _ _ _ _ _ h => by simp [istep] at h, fun _ _ _ _ _ h => by simp [isteps] at h, fun _ _ _ _ _ h => by simp [ibody] at h⟩
 | succ k ih =>
  obtain ⟨h1, h2, h3⟩ := ih
  refine ⟨?_, ?_, ?_⟩
  ·intro n ar sc i b0 b1 n1 h
   unfold istep at h
   split at h
   ·cases h
   ·rename_i vs m hv
    have := readVars_gt hv
    split at h
    ·split at h
     ·cases h
     ·rename_i c0 m2 hb
      have := h3 _ _ _ _ _ hb
      split at h
      ·cases h
      ·rename_i c1 m3 hb'
       have := h3 _ _ _ _ _ hb'
       simp at h; omega
    ·split at h
     ·split at h
      ·cases h
      ·rename_i c0 m2 hb
       have := h3 _ _ _ _ _ hb
       simp at h; omega
     ·split at h
      ·split at h
       ·cases h
       ·rename_i vs' m2 hd
        have := declVars_gt hd
        split at h
        ·cases h
        ·split at h
         ·cases h
         ·rename_i c0 m3 hs
          have := h2 _ _ _ _ _ hs
          split at h
          ·simp at h; omega
          ·cases h
      ·simp at h; omega
  ·intro n ar sc t n1 h
   unfold isteps at h
   split at h
   ·split at h
    ·cases h
    ·rename_i i b0 b1 m hs
     have := h1 _ _ _ _ _ _ _ hs
     split at h
     ·cases h
     ·rename_i r m2 hr
      have := h2 _ _ _ _ _ hr
      simp at h; omega
   ·simp at h; omega
  ·intro n ar sc t n1 h
   unfold ibody at h
   split at h
   ·split at h
    ·cases h
    ·rename_i b m hs
     have := h2 _ _ _ _ _ hs
     split at h
     ·simp at h; omega
     ·cases h
   ·cases h
theorem istep_gt {p : ByteArray} {k n sc n1 : Nat} {ar i b0 b1} (h : istep p k n ar sc = some (i, b0, b1, n1)) : n < n1 := (gts p k).1 _ _ _ _ _ _ _ h
theorem ibody_gt {p : ByteArray} {k n sc n1 : Nat} {ar t} (h : ibody p k n ar sc = some (t, n1)) : n < n1 := (gts p k).2.2 _ _ _ _ _ h
theorem isAt_lt {p : ByteArray} {n : Nat} {c : UInt8} (h : isAt p n c = true) : n < p.size := by
 simp [isAt] at h; exact h.1
theorem isKind_lt {p : ByteArray} {n : Nat} (h : isKind p n = true) : n < p.size := by
 simp [isKind] at h; exact h.1
theorem fuels (p : ByteArray) : ∀ k : Nat,
  (∀ k' n ar sc, n < p.size → 3 * (p.size - n) ≤ k → 3 * (p.size - n) ≤ k' → istep p k n ar sc = istep p k' n ar sc) ∧
  (∀ k' n ar sc, 3 * (p.size - n) + 1 ≤ k → 3 * (p.size - n) + 1 ≤ k' → isteps p k n ar sc = isteps p k' n ar sc) ∧
  (∀ k' n ar sc, 3 * (p.size - n) + 1 ≤ k → 3 * (p.size - n) + 1 ≤ k' → ibody p k n ar sc = ibody p k' n ar sc) := by
 intro k
 induction k with
 | zero => exact ⟨fun k' n ar sc hn h _ => by omega, fun k' n ar sc h _ => by omega, fun k' n ar sc h _ => by omega⟩
 | succ k ih =>
  obtain ⟨h1, h2, h3⟩ := ih
  refine ⟨?_, ?_, ?_⟩
  ·intro k' n ar sc hn hk hk'
   obtain ⟨k', rfl⟩ : ∃ j, k' = j + 1 := ⟨k' - 1, by omega⟩
   unfold istep
   cases hv : readVars p ar (many (bAt p n)) (n + 1) ByteArray.empty with
   | none => rfl
   | some q =>
    obtain ⟨vs, n1⟩ := q
    have g1 := readVars_gt hv
    simp only []
    rw [h3 k' n1 ar sc (by omega) (by omega)]
    cases hb : ibody p k' n1 ar sc with
    | none =>
     cases hd : declVars p ar (p.size - n1) n1 vs with
     | none => rfl
     | some q =>
      obtain ⟨vs', n2⟩ := q
      have g2 := declVars_gt hd
      simp only []
      rw [h2 k' (n2 + 1) (ar ++ vs') (sc + 1) (by omega) (by omega)]
    | some q =>
     obtain ⟨c0, n2⟩ := q
     have g2 := ibody_gt hb
     simp only []
     rw [h3 k' n2 ar sc (by omega) (by omega)]
     cases hd : declVars p ar (p.size - n1) n1 vs with
     | none => rfl
     | some q =>
      obtain ⟨vs', n2'⟩ := q
      have g2 := declVars_gt hd
      simp only []
      rw [h2 k' (n2' + 1) (ar ++ vs') (sc + 1) (by omega) (by omega)]
  ·intro k' n ar sc hk hk'
   obtain ⟨k', rfl⟩ : ∃ j, k' = j + 1 := ⟨k' - 1, by omega⟩
   unfold isteps
   split
   ·rename_i hkd
    have hn := isKind_lt hkd
    rw [h1 k' n ar sc hn (by omega) (by omega)]
    cases hs : istep p k' n ar sc with
    | none => rfl
    | some q =>
     obtain ⟨i, b0, b1, n1⟩ := q
     have := istep_gt hs
     simp only []
     rw [h2 k' n1 ar sc (by omega) (by omega)]
   ·rfl
  ·intro k' n ar sc hk hk'
   obtain ⟨k', rfl⟩ : ∃ j, k' = j + 1 := ⟨k' - 1, by omega⟩
   unfold ibody
   split
   ·rename_i ha
    have hn := isAt_lt ha
    rw [h2 k' (n + 1) ar sc (by omega) (by omega)]
   ·rfl
def IStep (p : ByteArray) (n : Nat) (ar : ByteArray) (sc : Nat) := istep p (3 * (p.size - n)) n ar sc
def ISteps (p : ByteArray) (n : Nat) (ar : ByteArray) (sc : Nat) := isteps p (3 * (p.size - n) + 1) n ar sc
def IBody (p : ByteArray) (n : Nat) (ar : ByteArray) (sc : Nat) := ibody p (3 * (p.size - n) + 1) n ar sc
theorem IStep_eq (p : ByteArray) (n : Nat) (ar : ByteArray) (sc : Nat) (hn : n < p.size) : IStep p n ar sc =
  match readVars p ar (many (bAt p n)) (n + 1) ByteArray.empty with
  | none => none
  | some (vs, n1) =>
   if bAt p n = 63 then
    match IBody p n1 ar sc with
    | none => none
    | some (b0, n2) =>
     match IBody p n2 ar sc with
     | none => none
     | some (b1, n3) => some (⟨bAt p n, n, n3, vs, ar, 2⟩, b0, b1, n3)
   else if bAt p n = 42 then
    match IBody p n1 ar sc with
    | none => none
    | some (b0, n2) => some (⟨bAt p n, n, n2, vs, ar, 1⟩, b0, .nil, n2)
   else if bAt p n = 123 then
    match declVars p ar (p.size - n1) n1 vs with
    | none => none
    | some (vs', n2) =>
     if vs'.size = 0 ∨ sc = 4 ∨ isAt p n2 58 = false then none
     else
      match ISteps p (n2 + 1) (ar ++ vs') (sc + 1) with
      | none => none
      | some (b0, n3) => if isAt p n3 125 then some (⟨bAt p n, n, n3 + 1, vs', ar, 1⟩, b0, .nil, n3 + 1) else none
   else some (⟨bAt p n, n, n1, vs, ar, 0⟩, .nil, .nil, n1) := by
 have e : IStep p n ar sc = istep p ((3 * (p.size - n) - 1) + 1) n ar sc := by unfold IStep; congr 1; omega
 rw [e]
 generalize hk : 3 * (p.size - n) - 1 = k
 have F := fuels p k
 unfold istep
 cases hv : readVars p ar (many (bAt p n)) (n + 1) ByteArray.empty with
 | none => rfl
 | some q =>
  obtain ⟨vs, n1⟩ := q
  have g1 := readVars_gt hv
  simp only []
  have e1 : ibody p k n1 ar sc = IBody p n1 ar sc := F.2.2 _ n1 ar sc (by omega) (by omega)
  rw [e1]
  cases hb : IBody p n1 ar sc with
  | none =>
   cases hd : declVars p ar (p.size - n1) n1 vs with
   | none => rfl
   | some q =>
    obtain ⟨vs', n2⟩ := q
    have g2 := declVars_gt hd
    simp only []
    have e2 : isteps p k (n2 + 1) (ar ++ vs') (sc + 1) = ISteps p (n2 + 1) (ar ++ vs') (sc + 1) := F.2.1 _ _ _ _ (by omega) (by omega)
    rw [e2]
  | some q =>
   obtain ⟨c0, n2⟩ := q
   have g2 := ibody_gt hb
   simp only []
   have e3 : ibody p k n2 ar sc = IBody p n2 ar sc := F.2.2 _ n2 ar sc (by omega) (by omega)
   rw [e3]
   cases hd : declVars p ar (p.size - n1) n1 vs with
   | none => rfl
   | some q =>
    obtain ⟨vs', n2'⟩ := q
    have g2 := declVars_gt hd
    simp only []
    have e2 : isteps p k (n2' + 1) (ar ++ vs') (sc + 1) = ISteps p (n2' + 1) (ar ++ vs') (sc + 1) := F.2.1 _ _ _ _ (by omega) (by omega)
    rw [e2]
theorem ISteps_eq (p : ByteArray) (n : Nat) (ar : ByteArray) (sc : Nat) : ISteps p n ar sc =
  if isKind p n then
   match IStep p n ar sc with
   | none => none
   | some (i, b0, b1, n1) =>
    match ISteps p n1 ar sc with
    | none => none
    | some (r, n2) => some (.cons i b0 b1 r, n2)
  else some (.nil, n) := by
 show isteps p (3 * (p.size - n) + 1) n ar sc = _
 generalize hk : 3 * (p.size - n) = k
 have F := fuels p k
 unfold isteps
 split
 ·rename_i hkd
  have hn := isKind_lt hkd
  have e : istep p k n ar sc = IStep p n ar sc := F.1 _ _ _ _ hn (by omega) (by omega)
  rw [e]
  cases hs : IStep p n ar sc with
  | none => rfl
  | some q =>
   obtain ⟨i, b0, b1, n1⟩ := q
   have := istep_gt hs
   simp only []
   have e : isteps p k n1 ar sc = ISteps p n1 ar sc := F.2.1 _ _ _ _ (by omega) (by omega)
   rw [e]
 ·rfl
theorem IBody_eq (p : ByteArray) (n : Nat) (ar : ByteArray) (sc : Nat) : IBody p n ar sc =
  if isAt p n 91 then
   match ISteps p (n + 1) ar sc with
   | none => none
   | some (b, m) => if isAt p m 93 then some (b, m + 1) else none
  else none := by
 show ibody p (3 * (p.size - n) + 1) n ar sc = _
 generalize hk : 3 * (p.size - n) = k
 have F := fuels p k
 unfold ibody
 split
 ·rename_i ha
  have hn := isAt_lt ha
  have e : isteps p k (n + 1) ar sc = ISteps p (n + 1) ar sc := F.2.1 _ _ _ _ (by omega) (by omega)
  rw [e]
 ·rfl
theorem IStep_gt {p : ByteArray} {n sc n1 : Nat} {ar i b0 b1} (h : IStep p n ar sc = some (i, b0, b1, n1)) : n < n1 := istep_gt h
theorem IBody_gt {p : ByteArray} {n sc n1 : Nat} {ar t} (h : IBody p n ar sc = some (t, n1)) : n < n1 := ibody_gt h
structure RS where
 at_ : Nat
 bad : Bool
 dep : Nat
def adv (s : RS) : RS := ⟨s.at_ + 1, s.bad, s.dep⟩
def badIf (b : Bool) (s : RS) : RS := ⟨s.at_, s.bad || b, s.dep⟩
def into (s : RS) : RS := ⟨s.at_, s.bad || decide (4 < s.dep + 1), s.dep + 1⟩
def out (s : RS) : RS := ⟨s.at_, s.bad, s.dep - 1⟩
@[simp] theorem adv_at (s : RS) : (adv s).at_ = s.at_ + 1 := rfl
@[simp] theorem badIf_at (b : Bool) (s : RS) : (badIf b s).at_ = s.at_ := rfl
@[simp] theorem into_at (s : RS) : (into s).at_ = s.at_ := rfl
@[simp] theorem out_at (s : RS) : (out s).at_ = s.at_ := rfl
def sis (p : ByteArray) (c : UInt8) (s : RS) : RS := if isAt p s.at_ c then (adv s) else (badIf true s)
def letA : ByteArray := ⟨#[97]⟩
def svar (p from_ : ByteArray) (s : RS) : ByteArray × RS :=
 if decide (s.at_ < p.size) && has from_ (bAt p s.at_) then (sub1 p s.at_, (adv s)) else (letA, (badIf true s))
def svarsL (p ar : ByteArray) : Nat → ByteArray → RS → ByteArray × RS
 | 0, acc, s => (acc, s)
 | k + 1, acc, s => if isLet p s.at_ then svarsL p ar k (acc ++ sub1 p s.at_) (badIf (has (ar ++ acc) (bAt p s.at_)) (adv s)) else (acc, s)
def svars (p ar : ByteArray) (s : RS) : ByteArray × RS :=
 let q := svarsL p ar (p.size - s.at_) ByteArray.empty s
 (q.1, badIf (decide (q.1.size = 0)) q.2)
mutual
def sstep (p : ByteArray) : Nat → ByteArray → RS → Inf × T × T × RS
 | 0, ar, s => (⟨0, 0, 0, ByteArray.empty, ar, 0⟩, .nil, .nil, (badIf true s))
 | k + 1, ar, s =>
  let c := bAt p s.at_
  let n := s.at_
  let s1 := adv s
  if c = 43 ∨ c = 45 ∨ c = 46 ∨ c = 126 then
   let q := svar p ar s1
   (⟨c, n, q.2.at_, q.1, ar, 0⟩, .nil, .nil, q.2)
  else if c = 61 then
   let q := svar p ar s1
   let q' := svar p ar q.2
   (⟨c, n, q'.2.at_, q.1 ++ q'.1, ar, 0⟩, .nil, .nil, badIf (decide (q'.1 = q.1)) q'.2)
  else if c = 94 ∨ c = 33 then (⟨c, n, s1.at_, ByteArray.empty, ar, 0⟩, .nil, .nil, s1)
  else if c = 63 then
   let q := sbody p k ar 93 (sis p 91 s1)
   let q' := sbody p k ar 93 (sis p 91 q.2)
   (⟨c, n, q'.2.at_, ByteArray.empty, ar, 2⟩, q.1, q'.1, q'.2)
  else if c = 42 then
   let q := sbody p k ar 93 (sis p 91 s1)
   (⟨c, n, q.2.at_, ByteArray.empty, ar, 1⟩, q.1, .nil, q.2)
  else if c = 123 then
   let v := svars p ar (into s1)
   let q := sbody p k (ar ++ v.1) 125 (sis p 58 v.2)
   (⟨c, n, q.2.at_, v.1, ar, 1⟩, q.1, .nil, out q.2)
  else (⟨c, n, s1.at_, ByteArray.empty, ar, 0⟩, .nil, .nil, (badIf true s1))
def sloop (p : ByteArray) : Nat → ByteArray → UInt8 → RS → T × RS
 | 0, _, _, s => (.nil, (badIf true s))
 | k + 1, ar, e, s =>
  if s.bad = false ∧ s.at_ < p.size ∧ bAt p s.at_ ≠ e then
   let q := sstep p k ar s
   let r := sloop p k ar e q.2.2.2
   (.cons q.1 q.2.1 q.2.2.1 r.1, r.2)
  else (.nil, s)
def sbody (p : ByteArray) : Nat → ByteArray → UInt8 → RS → T × RS
 | 0, _, _, s => (.nil, (badIf true s))
 | k + 1, ar, e, s =>
  let q := sloop p k ar e s
  (q.1, sis p e q.2)
end
theorem sis_ge (p : ByteArray) (c : UInt8) (s : RS) : s.at_ ≤ (sis p c s).at_ := by unfold sis; split <;> simp
theorem svar_ge (p f : ByteArray) (s : RS) : s.at_ ≤ (svar p f s).2.at_ := by unfold svar; split <;> simp
theorem svarsL_ge (p ar : ByteArray) : ∀ (k : Nat) (acc : ByteArray) (s : RS), s.at_ ≤ (svarsL p ar k acc s).2.at_
 | 0, _, _ => Nat.le_refl _
 | k + 1, acc, s => by
  unfold svarsL
  split
  ·have := svarsL_ge p ar k (acc ++ sub1 p s.at_) (badIf (has (ar ++ acc) (bAt p s.at_)) (adv s))
   simp at this; omega
  ·exact Nat.le_refl _
theorem svars_ge (p ar : ByteArray) (s : RS) : s.at_ ≤ (svars p ar s).2.at_ := svarsL_ge ..
theorem sges (p : ByteArray) : ∀ k : Nat,
  (∀ ar s, s.at_ + min k 1 ≤ (sstep p k ar s).2.2.2.at_) ∧
  (∀ ar e s, s.at_ ≤ (sloop p k ar e s).2.at_) ∧
  (∀ ar e s, s.at_ ≤ (sbody p k ar e s).2.at_) := by
 intro k
 induction k with
 | zero => exact ⟨fun ar s => Nat.le_refl _, fun _ _ _ => Nat.le_refl _, fun _ _ _ => Nat.le_refl _⟩
 | succ k ih =>
  obtain ⟨h1, h2, h3⟩ := ih
  refine ⟨?_, ?_, ?_⟩
  ·intro ar s
   have hm : min (k + 1) 1 = 1 := by omega
   rw [hm]
   unfold sstep
   simp only []
   split
   ·have := svar_ge p ar (adv s); simp at this ⊢; omega
   split
   ·have a := svar_ge p ar (adv s)
    have b := svar_ge p ar (svar p ar (adv s)).2
    simp at a b ⊢; omega
   split
   ·simp
   split
   ·have a := sis_ge p 91 (adv s)
    have b := h3 ar 93 (sis p 91 (adv s))
    have c := sis_ge p 91 (sbody p k ar 93 (sis p 91 (adv s))).2
    have d := h3 ar 93 (sis p 91 (sbody p k ar 93 (sis p 91 (adv s))).2)
    simp at a b c d ⊢; omega
   split
   ·have a := sis_ge p 91 (adv s)
    have b := h3 ar 93 (sis p 91 (adv s))
    simp at a b ⊢; omega
   split
   ·generalize hv : svars p ar (into (adv s)) = v
    have z := svars_ge p ar (into (adv s))
    rw [hv] at z
    have a := sis_ge p 58 v.2
    have b := h3 (ar ++ v.1) 125 (sis p 58 v.2)
    simp at z a b ⊢; omega
   ·simp
  ·intro ar e s
   unfold sloop
   split
   ·rename_i h
    simp only []
    have b := h2 ar e (sstep p k ar s).2.2.2
    have a := h1 ar s
    omega
   ·exact Nat.le_refl _
  ·intro ar e s
   unfold sbody
   simp only []
   have a := h2 ar e s
   have b := sis_ge p e (sloop p k ar e s).2
   omega
theorem sstep_ge (p : ByteArray) {k : Nat} (ar : ByteArray) (s : RS) (hk : 0 < k) : s.at_ < (sstep p k ar s).2.2.2.at_ := by
 have := (sges p k).1 ar s; omega
theorem sbody_ge (p : ByteArray) (k : Nat) (ar e s) : s.at_ ≤ (sbody p k ar e s).2.at_ := (sges p k).2.2 ar e s
theorem sfuels (p : ByteArray) : ∀ k : Nat,
  (∀ k' ar s, s.at_ < p.size → 3 * (p.size - s.at_) ≤ k → 3 * (p.size - s.at_) ≤ k' → sstep p k ar s = sstep p k' ar s) ∧
  (∀ k' ar e s, 3 * (p.size - s.at_) + 1 ≤ k → 3 * (p.size - s.at_) + 1 ≤ k' → sloop p k ar e s = sloop p k' ar e s) ∧
  (∀ k' ar e s, 3 * (p.size - s.at_) + 2 ≤ k → 3 * (p.size - s.at_) + 2 ≤ k' → sbody p k ar e s = sbody p k' ar e s) := by
 intro k
 induction k with
 | zero => exact ⟨fun k' ar s hn h _ => by omega, fun k' ar e s h _ => by omega, fun k' ar e s h _ => by omega⟩
 | succ k ih =>
  obtain ⟨h1, h2, h3⟩ := ih
  refine ⟨?_, ?_, ?_⟩
  ·intro k' ar s hs hk hk'
   obtain ⟨k', rfl⟩ : ∃ j, k' = j + 1 := ⟨k' - 1, by omega⟩
   unfold sstep
   simp only []
   have a := sis_ge p 91 (adv s)
   simp only [adv_at] at a
   have b := sbody_ge p k' ar 93 (sis p 91 (adv s))
   have c := sis_ge p 91 (sbody p k' ar 93 (sis p 91 (adv s))).2
   rw [h3 k' ar 93 (sis p 91 (adv s)) (by omega) (by omega)]
   rw [h3 k' ar 93 (sis p 91 (sbody p k' ar 93 (sis p 91 (adv s))).2) (by omega) (by omega)]
   have z := svars_ge p ar (into (adv s))
   simp only [into_at, adv_at] at z
   have y := sis_ge p 58 (svars p ar (into (adv s))).2
   rw [h3 k' (ar ++ (svars p ar (into (adv s))).1) 125 (sis p 58 (svars p ar (into (adv s))).2) (by omega) (by omega)]
  ·intro k' ar e s hk hk'
   obtain ⟨k', rfl⟩ : ∃ j, k' = j + 1 := ⟨k' - 1, by omega⟩
   unfold sloop
   split
   ·rename_i h
    simp only []
    rw [h1 k' ar s h.2.1 (by omega) (by omega)]
    have a := sstep_ge p (k := k') ar s (by omega)
    rw [h2 k' ar e _ (by omega) (by omega)]
   ·rfl
  ·intro k' ar e s hk hk'
   obtain ⟨k', rfl⟩ : ∃ j, k' = j + 1 := ⟨k' - 1, by omega⟩
   unfold sbody
   rw [h2 k' ar e s (by omega) (by omega)]
def SStep (p ar : ByteArray) (s : RS) := sstep p (3 * (p.size - s.at_)) ar s
def SLoop (p ar : ByteArray) (e : UInt8) (s : RS) := sloop p (3 * (p.size - s.at_) + 1) ar e s
def SBody (p ar : ByteArray) (e : UInt8) (s : RS) := sbody p (3 * (p.size - s.at_) + 2) ar e s
theorem SStep_eq (p ar : ByteArray) (s : RS) (hs : s.at_ < p.size) : SStep p ar s =
  let c := bAt p s.at_
  let n := s.at_
  let s1 := adv s
  if c = 43 ∨ c = 45 ∨ c = 46 ∨ c = 126 then
   let q := svar p ar s1
   (⟨c, n, q.2.at_, q.1, ar, 0⟩, .nil, .nil, q.2)
  else if c = 61 then
   let q := svar p ar s1
   let q' := svar p ar q.2
   (⟨c, n, q'.2.at_, q.1 ++ q'.1, ar, 0⟩, .nil, .nil, badIf (decide (q'.1 = q.1)) q'.2)
  else if c = 94 ∨ c = 33 then (⟨c, n, s1.at_, ByteArray.empty, ar, 0⟩, .nil, .nil, s1)
  else if c = 63 then
   let q := SBody p ar 93 (sis p 91 s1)
   let q' := SBody p ar 93 (sis p 91 q.2)
   (⟨c, n, q'.2.at_, ByteArray.empty, ar, 2⟩, q.1, q'.1, q'.2)
  else if c = 42 then
   let q := SBody p ar 93 (sis p 91 s1)
   (⟨c, n, q.2.at_, ByteArray.empty, ar, 1⟩, q.1, .nil, q.2)
  else if c = 123 then
   let v := svars p ar (into s1)
   let q := SBody p (ar ++ v.1) 125 (sis p 58 v.2)
   (⟨c, n, q.2.at_, v.1, ar, 1⟩, q.1, .nil, out q.2)
  else (⟨c, n, s1.at_, ByteArray.empty, ar, 0⟩, .nil, .nil, (badIf true s1)) := by
 have e : SStep p ar s = sstep p ((3 * (p.size - s.at_) - 1) + 1) ar s := by unfold SStep; congr 1; omega
 rw [e]
 generalize hk : 3 * (p.size - s.at_) - 1 = k
 have F := sfuels p k
 have e : ∀ ar' e' s', s.at_ < s'.at_ → sbody p k ar' e' s' = SBody p ar' e' s' := fun ar' e' s' h => F.2.2 _ ar' e' s' (by omega) (by omega)
 unfold sstep
 simp only []
 have a := sis_ge p 91 (adv s)
 simp only [adv_at] at a
 rw [e ar 93 (sis p 91 (adv s)) (by omega)]
 have b := sbody_ge p (3 * (p.size - (sis p 91 (adv s)).at_) + 2) ar 93 (sis p 91 (adv s))
 have c := sis_ge p 91 (SBody p ar 93 (sis p 91 (adv s))).2
 rw [e ar 93 (sis p 91 (SBody p ar 93 (sis p 91 (adv s))).2) (by unfold SBody at *; omega)]
 have z := svars_ge p ar (into (adv s))
 simp only [into_at, adv_at] at z
 have y := sis_ge p 58 (svars p ar (into (adv s))).2
 rw [e _ 125 _ (by omega)]
theorem SLoop_eq (p ar : ByteArray) (e : UInt8) (s : RS) : SLoop p ar e s =
  if s.bad = false ∧ s.at_ < p.size ∧ bAt p s.at_ ≠ e then
   let q := SStep p ar s
   let r := SLoop p ar e q.2.2.2
   (.cons q.1 q.2.1 q.2.2.1 r.1, r.2)
  else (.nil, s) := by
 show sloop p (3 * (p.size - s.at_) + 1) ar e s = _
 generalize hk : 3 * (p.size - s.at_) = k
 have F := sfuels p k
 unfold sloop
 split
 ·rename_i h
  simp only []
  have e1 : sstep p k ar s = SStep p ar s := F.1 _ ar s h.2.1 (by omega) (by omega)
  rw [e1]
  have a := sstep_ge p (k := 3 * (p.size - s.at_)) ar s (by omega)
  have e2 : sloop p k ar e (SStep p ar s).2.2.2 = SLoop p ar e (SStep p ar s).2.2.2 := F.2.1 _ ar e _ (by unfold SStep; omega) (by omega)
  rw [e2]
 ·rfl
theorem SBody_eq (p ar : ByteArray) (e : UInt8) (s : RS) : SBody p ar e s = ((SLoop p ar e s).1, sis p e (SLoop p ar e s).2) := by
 show sbody p (3 * (p.size - s.at_) + 2) ar e s = _
 unfold sbody
 rfl
theorem SStep_ge (p ar : ByteArray) (s : RS) (hs : s.at_ < p.size) : s.at_ < (SStep p ar s).2.2.2.at_ := sstep_ge p ar s (by omega)
theorem SBody_ge (p ar e s) : s.at_ ≤ (SBody p ar e s).2.at_ := sbody_ge ..
def Lets (s : ByteArray) : Prop := ∀ c, has s c = true → 97 ≤ c ∧ c ≤ 102
theorem has_append (a b : ByteArray) (c : UInt8) : has (a ++ b) c = (has a c || has b c) := by
 simp [has, ByteArray.data_append]
theorem has_empty (c : UInt8) : has ByteArray.empty c = false := by simp [has]
theorem Lets.append {a b : ByteArray} (ha : Lets a) (hb : Lets b) : Lets (a ++ b) := by
 intro c hc
 rw [has_append, Bool.or_eq_true] at hc
 exact hc.elim (ha c) (hb c)
theorem Lets.empty : Lets ByteArray.empty := by intro c hc; rw [has_empty] at hc; cases hc
theorem sub1_data {p : ByteArray} {n : Nat} (h : n < p.size) : (sub1 p n).data.toList = [bAt p n] := by
 have hs : p.data.size = p.size := rfl
 simp only [sub1, ByteArray.data_extract, bAt]
 apply List.ext_getElem
 ·simp; omega
 ·intro i h1 h2
  have : i = 0 := by simp at h2; omega
  subst this
  simp [Array.getD, hs, h]
theorem sub1_size {p : ByteArray} {n : Nat} (h : n < p.size) : (sub1 p n).size = 1 := by
 have e := sub1_data h
 have : (sub1 p n).data.toList.length = 1 := by rw [e]; rfl
 simpa using this
theorem has_sub1 {p : ByteArray} {n : Nat} (h : n < p.size) (c : UInt8) : has (sub1 p n) c = (c == bAt p n) := by
 unfold has; rw [sub1_data h]; simp; rfl
theorem isLet_lt {p : ByteArray} {n : Nat} (h : isLet p n = true) : n < p.size := by simp [isLet] at h; exact h.1
theorem isLet_let {p : ByteArray} {n : Nat} (h : isLet p n = true) : 97 ≤ bAt p n ∧ bAt p n ≤ 102 := by simp [isLet] at h; exact h.2
theorem Lets.sub1 {p : ByteArray} {n : Nat} (h : isLet p n = true) : Lets (sub1 p n) := by
 intro c hc
 rw [has_sub1 (isLet_lt h)] at hc
 have : c = bAt p n := by simpa using hc
 subst this
 exact isLet_let h
theorem ba_empty_append (a : ByteArray) : ByteArray.empty ++ a = a := by simp
@[simp] theorem adv_bad (s : RS) : (adv s).bad = s.bad := rfl
theorem sis_dep (p : ByteArray) (c : UInt8) (s : RS) : (sis p c s).dep = s.dep := by unfold sis; split <;> rfl
def IParse (p : ByteArray) : Option (Inf × T × T) :=
 if 80 < p.size ∨ p.size = 0 ∨ bAt p 0 ≠ 123 then none
 else match IStep p 0 ByteArray.empty 0 with
  | none => none
  | some (i, b0, b1, m) => if m = p.size then some (i, b0, b1) else none
def SParse (p : ByteArray) : Option (Inf × T × T) :=
 if p.size = 0 ∨ bAt p 0 ≠ 123 ∨ 80 < p.size then none
 else
  let q := SStep p ByteArray.empty ⟨0, false, 0⟩
  if q.2.2.2.bad = true ∨ q.2.2.2.at_ ≠ p.size then none else some (q.1, q.2.1, q.2.2.1)
end Go.Proofs.YtojhdfdhfajjjaaDoor.Pl
namespace Go.Proofs.YtojhdfdhfajjjaaDoor.Pl
theorem sis_le {p : ByteArray} {c : UInt8} {s : RS} (h : s.at_ ≤ p.size) : (sis p c s).at_ ≤ p.size := by
 unfold sis
 split
 ·rename_i ha; exact isAt_lt ha
 ·exact h
theorem svar_le {p f : ByteArray} {s : RS} (h : s.at_ ≤ p.size) : (svar p f s).2.at_ ≤ p.size := by
 unfold svar
 split
 ·rename_i ha
  simp at ha
  exact ha.1
 ·exact h
theorem svar_dep (p f : ByteArray) (s : RS) : (svar p f s).2.dep = s.dep := by unfold svar; split <;> rfl
theorem svar_size (p f : ByteArray) (s : RS) : (svar p f s).1.size = 1 := by
 unfold svar
 split
 ·rename_i ha
  simp at ha
  exact sub1_size ha.1
 ·rfl
theorem svarsL_le {p ar : ByteArray} : ∀ (k : Nat) (acc : ByteArray) (s : RS), s.at_ ≤ p.size → (svarsL p ar k acc s).2.at_ ≤ p.size ∧ (svarsL p ar k acc s).2.dep = s.dep ∧ (svarsL p ar k acc s).1.size + s.at_ = acc.size + (svarsL p ar k acc s).2.at_
 | 0, _, _, h => ⟨h, rfl, rfl⟩
 | k + 1, acc, s, h => by
  unfold svarsL
  split
  ·rename_i hl
   have hlt := isLet_lt hl
   have ih := svarsL_le (p := p) (ar := ar) k (acc ++ sub1 p s.at_) (badIf (has (ar ++ acc) (bAt p s.at_)) (adv s)) hlt
   obtain ⟨a, b, c⟩ := ih
   refine ⟨a, b, ?_⟩
   rw [ByteArray.size_append, sub1_size hlt] at c
   simp only [badIf_at, adv_at] at c
   omega
  ·exact ⟨h, rfl, rfl⟩
theorem svars_le {p ar : ByteArray} {s : RS} (h : s.at_ ≤ p.size) : (svars p ar s).2.at_ ≤ p.size ∧ (svars p ar s).2.dep = s.dep ∧ (svars p ar s).1.size + s.at_ = (svars p ar s).2.at_ := by
 have := svarsL_le (p := p) (ar := ar) (p.size - s.at_) ByteArray.empty s h
 unfold svars
 simp only [badIf_at]
 refine ⟨this.1, this.2.1, ?_⟩
 have h3 := this.2.2
 simp at h3
 omega
theorem slims (p : ByteArray) : ∀ k : Nat,
  (∀ ar s, s.at_ < p.size → (sstep p k ar s).2.2.2.at_ ≤ p.size ∧ (sstep p k ar s).2.2.2.dep = s.dep) ∧
  (∀ ar e s, s.at_ ≤ p.size → (sloop p k ar e s).2.at_ ≤ p.size ∧ (sloop p k ar e s).2.dep = s.dep) ∧
  (∀ ar e s, s.at_ ≤ p.size → (sbody p k ar e s).2.at_ ≤ p.size ∧ (sbody p k ar e s).2.dep = s.dep) := by
 intro k
 induction k with
 | zero => exact ⟨fun ar s h => ⟨Nat.le_of_lt h, rfl⟩, fun ar e s h => ⟨h, rfl⟩, fun ar e s h => ⟨h, rfl⟩⟩
 | succ k ih =>
  obtain ⟨h1, h2, h3⟩ := ih
  refine ⟨?_, ?_, ?_⟩
  ·intro ar s hs
   have ha : (adv s).at_ ≤ p.size := hs
   have hb : ∀ ar' e s', s'.at_ ≤ p.size → (sbody p k ar' e s').2.at_ ≤ p.size ∧ (sbody p k ar' e s').2.dep = s'.dep := h3
   unfold sstep
   simp only []
   split
   ·exact ⟨svar_le ha, svar_dep _ _ _⟩
   split
   ·exact ⟨svar_le (svar_le ha), by show (svar p ar (svar p ar (adv s)).2).2.dep = _; rw [svar_dep, svar_dep]; rfl⟩
   split
   ·exact ⟨ha, rfl⟩
   split
   ·have a := hb ar 93 (sis p 91 (adv s)) (sis_le ha)
    have b := hb ar 93 (sis p 91 (sbody p k ar 93 (sis p 91 (adv s))).2) (sis_le a.1)
    exact ⟨b.1, by rw [b.2, sis_dep, a.2, sis_dep]; rfl⟩
   split
   ·have a := hb ar 93 (sis p 91 (adv s)) (sis_le ha)
    exact ⟨a.1, by rw [a.2, sis_dep]; rfl⟩
   split
   ·have v := svars_le (p := p) (ar := ar) (s := into (adv s)) ha
    have a := hb (ar ++ (svars p ar (into (adv s))).1) 125 (sis p 58 (svars p ar (into (adv s))).2) (sis_le v.1)
    refine ⟨a.1, ?_⟩
    show (sbody p k _ 125 _).2.dep - 1 = s.dep
    rw [a.2, sis_dep, v.2.1]
    show s.dep + 1 - 1 = s.dep
    omega
   ·exact ⟨ha, rfl⟩
  ·intro ar e s hs
   unfold sloop
   split
   ·rename_i h
    simp only []
    have a := h1 ar s h.2.1
    have b := h2 ar e (sstep p k ar s).2.2.2 a.1
    exact ⟨b.1, by rw [b.2, a.2]⟩
   ·exact ⟨hs, rfl⟩
  ·intro ar e s hs
   unfold sbody
   simp only []
   have a := h2 ar e s hs
   exact ⟨sis_le a.1, by rw [sis_dep, a.2]⟩
theorem SStep_le {p ar : ByteArray} {s : RS} (h : s.at_ < p.size) : (SStep p ar s).2.2.2.at_ ≤ p.size := ((slims p _).1 ar s h).1
theorem SStep_dep {p ar : ByteArray} {s : RS} (h : s.at_ < p.size) : (SStep p ar s).2.2.2.dep = s.dep := ((slims p _).1 ar s h).2
theorem SBody_le {p ar : ByteArray} {e : UInt8} {s : RS} (h : s.at_ ≤ p.size) : (SBody p ar e s).2.at_ ≤ p.size := ((slims p _).2.2 ar e s h).1
theorem SBody_dep {p ar : ByteArray} {e : UInt8} {s : RS} (h : s.at_ ≤ p.size) : (SBody p ar e s).2.dep = s.dep := ((slims p _).2.2 ar e s h).2
end Go.Proofs.YtojhdfdhfajjjaaDoor.Pl
namespace Go.Proofs.YtojhdfdhfajjjaaDoor.Pl
def T.count : T → Nat
 | .nil => 0
 | .cons _ b0 b1 r => 1 + b0.count + b1.count + r.count
theorem counts (p : ByteArray) : ∀ k : Nat,
  (∀ n ar sc i b0 b1 n1, istep p k n ar sc = some (i, b0, b1, n1) → 1 + b0.count + b1.count + n ≤ n1) ∧
  (∀ n ar sc t n1, isteps p k n ar sc = some (t, n1) → t.count + n ≤ n1) ∧
  (∀ n ar sc t n1, ibody p k n ar sc = some (t, n1) → t.count + n < n1) := by
 intro k
 induction k with
 | zero => exact ⟨fun _ _ _ _ _ _ _ h => by simp [istep] at h, fun _ _ _ _ _ h => by simp [isteps] at h, fun _ _ _ _ _ h => by simp [ibody] at h⟩
 | succ k ih =>
  obtain ⟨h1, h2, h3⟩ := ih
  refine ⟨?_, ?_, ?_⟩
  ·intro n ar sc i b0 b1 n1 h
   unfold istep at h
   split at h
   ·cases h
   ·rename_i vs m hv
    have := readVars_gt hv
    split at h
    ·split at h
     ·cases h
     ·rename_i c0 m2 hb
      have := h3 _ _ _ _ _ hb
      split at h
      ·cases h
      ·rename_i c1 m3 hb'
       have := h3 _ _ _ _ _ hb'
       simp at h; obtain ⟨_, rfl, rfl, rfl⟩ := h; omega
    ·split at h
     ·split at h
      ·cases h
      ·rename_i c0 m2 hb
       have := h3 _ _ _ _ _ hb
       simp at h; obtain ⟨_, rfl, rfl, rfl⟩ := h; simp only [T.count]; omega
     ·split at h
      ·split at h
       ·cases h
       ·rename_i vs' m2 hd
        have := declVars_gt hd
        split at h
        ·cases h
        ·split at h
         ·cases h
         ·rename_i c0 m3 hs
          have := h2 _ _ _ _ _ hs
          split at h
          ·simp at h; obtain ⟨_, rfl, rfl, rfl⟩ := h; simp only [T.count]; omega
          ·cases h
      ·simp at h; obtain ⟨_, rfl, rfl, rfl⟩ := h; simp only [T.count]; omega
  ·intro n ar sc t n1 h
   unfold isteps at h
   split at h
   ·split at h
    ·cases h
    ·rename_i i b0 b1 m hs
     have := h1 _ _ _ _ _ _ _ hs
     split at h
     ·cases h
     ·rename_i r m2 hr
      have := h2 _ _ _ _ _ hr
      simp at h; obtain ⟨rfl, rfl⟩ := h; simp only [T.count]; omega
   ·simp at h; obtain ⟨rfl, rfl⟩ := h; simp only [T.count]; omega
  ·intro n ar sc t n1 h
   unfold ibody at h
   split at h
   ·split at h
    ·cases h
    ·rename_i b m hs
     have := h2 _ _ _ _ _ hs
     split at h
     ·simp at h; obtain ⟨rfl, rfl⟩ := h; omega
     ·cases h
   ·cases h
theorem parse_count {p : ByteArray} {i : Inf} {b0 b1 : T} (h : IParse p = some (i, b0, b1)) : (T.cons i b0 b1 .nil).count ≤ 80 := by
 unfold IParse at h
 split at h
 ·cases h
 ·rename_i hp
  split at h
  ·cases h
  ·rename_i j c0 c1 m hs
   split at h
   ·rename_i hm
    simp at h
    obtain ⟨rfl, rfl, rfl⟩ := h
    have := (counts p _).1 _ _ _ _ _ _ _ hs
    simp only [T.count]
    omega
   ·cases h
end Go.Proofs.YtojhdfdhfajjjaaDoor.Pl
namespace Go.Proofs.YtojhdfdhfajjjaaDoor.Pl
theorem readVars_size {p ar : ByteArray} : ∀ {m n : Nat} {acc vs : ByteArray} {n1 : Nat}, readVars p ar m n acc = some (vs, n1) → n ≤ p.size → vs.size = acc.size + m ∧ n1 ≤ p.size
 | 0, n, acc, vs, n1, h, hn => by
  simp [readVars] at h
  obtain ⟨rfl, rfl⟩ := h
  exact ⟨rfl, hn⟩
 | m + 1, n, acc, vs, n1, h, hn => by
  unfold readVars at h
  split at h
  ·rename_i hc
   simp only [Bool.and_eq_true] at hc
   have hl := isLet_lt hc.1.1
   have := readVars_size h hl
   rw [ByteArray.size_append, sub1_size hl] at this
   omega
  ·cases h
end Go.Proofs.YtojhdfdhfajjjaaDoor.Pl
namespace Go.Proofs.YtojhdfdhfajjjaaDoor.Pl
structure NOk (i : Inf) : Prop where
 sl : Lets i.scope
 ss : i.scope.size ≤ 80
 vl : Lets i.vars
 vs : i.vars.size ≤ 80
 one : i.kind = 43 ∨ i.kind = 46 ∨ i.kind = 45 ∨ i.kind = 126 → 1 ≤ i.vars.size
 two : i.kind = 61 → 2 ≤ i.vars.size
 br : i.kind = 63 → i.nb = 2
 lp : i.kind = 42 → i.nb = 1
 sc : i.kind = 123 → i.nb = 1
 at_ : i.at_ ≤ 80
 en : i.end_ ≤ 80
 en1 : 1 ≤ i.end_
def ROk : T → Prop
 | .nil => True
 | .cons i b0 b1 r => NOk i ∧ ROk b0 ∧ ROk b1 ∧ ROk r
theorem readVars_lets {p ar : ByteArray} : ∀ {m n : Nat} {acc vs : ByteArray} {n1 : Nat}, readVars p ar m n acc = some (vs, n1) → Lets acc → Lets vs
 | 0, n, acc, vs, n1, h, hl => by
  simp [readVars] at h
  obtain ⟨rfl, rfl⟩ := h
  exact hl
 | m + 1, n, acc, vs, n1, h, hl => by
  unfold readVars at h
  split at h
  ·rename_i hc
   simp only [Bool.and_eq_true] at hc
   exact readVars_lets h (hl.append (Lets.sub1 hc.1.1))
  ·cases h
theorem declVars_lets {p ar : ByteArray} : ∀ {k n : Nat} {acc vs : ByteArray} {n1 : Nat}, declVars p ar k n acc = some (vs, n1) → Lets acc → Lets vs ∧ vs.size + n = acc.size + n1
 | 0, n, acc, vs, n1, h, hl => by
  simp [declVars] at h
  obtain ⟨rfl, rfl⟩ := h
  exact ⟨hl, rfl⟩
 | k + 1, n, acc, vs, n1, h, hl => by
  unfold declVars at h
  split at h
  ·rename_i hc
   split at h
   ·cases h
   ·have := declVars_lets h (hl.append (Lets.sub1 hc))
    rw [ByteArray.size_append, sub1_size (isLet_lt hc)] at this
    exact ⟨this.1, by omega⟩
  ·simp at h
   obtain ⟨rfl, rfl⟩ := h
   exact ⟨hl, rfl⟩
theorem many_le (c : UInt8) : many c ≤ 2 := by
 unfold many
 split
 ·omega
 ·split <;> omega
theorem roks (p : ByteArray) (hp : p.size ≤ 80) : ∀ k : Nat,
  (∀ n ar sc i b0 b1 n1, istep p k n ar sc = some (i, b0, b1, n1) → n < p.size → Lets ar → ar.size ≤ n → NOk i ∧ ROk b0 ∧ ROk b1 ∧ n1 ≤ p.size) ∧
  (∀ n ar sc t n1, isteps p k n ar sc = some (t, n1) → n ≤ p.size → Lets ar → ar.size ≤ n → ROk t ∧ n1 ≤ p.size) ∧
  (∀ n ar sc t n1, ibody p k n ar sc = some (t, n1) → n ≤ p.size → Lets ar → ar.size ≤ n → ROk t ∧ n1 ≤ p.size) := by
 intro k
 induction k with
 | zero => exact ⟨fun _ _ _ _ _ _ _ h => by simp [istep] at h, fun _ _ _ _ _ h => by simp [isteps] at h, fun _ _ _ _ _ h => by simp [ibody] at h⟩
 | succ k ih =>
  obtain ⟨h1, h2, h3⟩ := ih
  refine ⟨?_, ?_, ?_⟩
  ·intro n ar sc i b0 b1 n1 h hn hl hs
   unfold istep at h
   split at h
   ·cases h
   ·rename_i vs m hv
    have hgt := readVars_gt hv
    obtain ⟨hvs, hm⟩ := readVars_size hv hn
    have hvl := readVars_lets hv Lets.empty
    have hmy := many_le (bAt p n)
    have hvs' : vs.size = many (bAt p n) := by rw [hvs]; exact Nat.zero_add _
    split at h
    ·rename_i hk
     split at h
     ·cases h
     ·rename_i c0 m2 hb
      have g1 := (gts p k).2.2 _ _ _ _ _ hb
      have q1 := h3 _ _ _ _ _ hb hm hl (by omega)
      split at h
      ·cases h
      ·rename_i c1 m3 hb'
       have g2 := (gts p k).2.2 _ _ _ _ _ hb'
       have q2 := h3 _ _ _ _ _ hb' q1.2 hl (by omega)
       simp at h; obtain ⟨rfl, rfl, rfl, rfl⟩ := h
       exact ⟨⟨hl, by show ar.size ≤ 80; omega, hvl, by show vs.size ≤ 80; omega, fun e => by simp [hk] at e, fun e => by simp [hk] at e, fun _ => rfl, fun e => by simp [hk] at e, fun e => by simp [hk] at e, by show n ≤ 80; omega, by show m3 ≤ 80; omega, by show 1 ≤ m3; omega⟩, q1.1, q2.1, q2.2⟩
    ·rename_i hk63
     split at h
     ·rename_i hk
      split at h
      ·cases h
      ·rename_i c0 m2 hb
       have g1 := (gts p k).2.2 _ _ _ _ _ hb
       have q1 := h3 _ _ _ _ _ hb hm hl (by omega)
       simp at h; obtain ⟨rfl, rfl, rfl, rfl⟩ := h
       exact ⟨⟨hl, by show ar.size ≤ 80; omega, hvl, by show vs.size ≤ 80; omega, fun e => by simp [hk] at e, fun e => by simp [hk] at e, fun e => by simp [hk] at e, fun _ => rfl, fun e => by simp [hk] at e, by show n ≤ 80; omega, by show m2 ≤ 80; omega, by show 1 ≤ m2; omega⟩, q1.1, trivial, q1.2⟩
     ·rename_i hk42
      split at h
      ·rename_i hk
       split at h
       ·cases h
       ·rename_i vs' m2 hd
        have g0 := declVars_gt hd
        obtain ⟨hdl, hds⟩ := declVars_lets hd hvl
        have hv0 : many (bAt p n) = 0 := by rw [hk]; rfl
        split at h
        ·cases h
        ·rename_i hco
         split at h
         ·cases h
         ·rename_i c0 m3 hst
          have hcol : isAt p m2 58 = true := by
           cases hx : isAt p m2 58
           ·exact absurd (.inr (.inr hx)) hco
           ·rfl
          have g1 := (gts p k).2.1 _ _ _ _ _ hst
          have q1 := h2 _ _ _ _ _ hst (isAt_lt hcol) (hl.append hdl) (by rw [ByteArray.size_append]; omega)
          split at h
          ·rename_i hbr
           have g2 := isAt_lt hbr
           simp at h; obtain ⟨rfl, rfl, rfl, rfl⟩ := h
           have hcl := isAt_lt hcol
           exact ⟨⟨hl, by show ar.size ≤ 80; omega, hdl, by show vs'.size ≤ 80; omega, fun e => by simp [hk] at e, fun e => by simp [hk] at e, fun e => by simp [hk] at e, fun e => by simp [hk] at e, fun _ => rfl, by show n ≤ 80; omega, by show m3 + 1 ≤ 80; omega, by show 1 ≤ m3 + 1; omega⟩, q1.1, trivial, g2⟩
          ·cases h
      ·rename_i hk123
       simp at h; obtain ⟨rfl, rfl, rfl, rfl⟩ := h
       refine ⟨⟨hl, by show ar.size ≤ 80; omega, hvl, by show vs.size ≤ 80; omega, fun e => ?_, fun e => ?_, fun e => absurd e hk63, fun e => absurd e hk42, fun e => absurd e hk123, by show n ≤ 80; omega, by show m ≤ 80; omega, by show 1 ≤ m; omega⟩, trivial, trivial, hm⟩
       ·have e' : bAt p n = 43 ∨ bAt p n = 46 ∨ bAt p n = 45 ∨ bAt p n = 126 := e
        show 1 ≤ vs.size
        have e2 : many (bAt p n) = 1 := by rcases e' with e' | e' | e' | e' <;> rw [e'] <;> rfl
        omega
       ·have e' : bAt p n = 61 := e
        show 2 ≤ vs.size
        rw [e', show many 61 = 2 from rfl] at hvs'
        omega
  ·intro n ar sc t n1 h hn hl hs
   unfold isteps at h
   split at h
   ·rename_i hkd
    split at h
    ·cases h
    ·rename_i i b0 b1 m hst
     have g := (gts p k).1 _ _ _ _ _ _ _ hst
     have q1 := h1 _ _ _ _ _ _ _ hst (isKind_lt hkd) hl hs
     split at h
     ·cases h
     ·rename_i r m2 hr
      have q2 := h2 _ _ _ _ _ hr q1.2.2.2 hl (by omega)
      simp at h; obtain ⟨rfl, rfl⟩ := h
      exact ⟨⟨q1.1, q1.2.1, q1.2.2.1, q2.1⟩, q2.2⟩
   ·simp at h; obtain ⟨rfl, rfl⟩ := h
    exact ⟨trivial, hn⟩
  ·intro n ar sc t n1 h hn hl hs
   unfold ibody at h
   split at h
   ·rename_i ha
    split at h
    ·cases h
    ·rename_i b m hst
     have q1 := h2 _ _ _ _ _ hst (isAt_lt ha) hl (by omega)
     split at h
     ·rename_i hb
      simp at h; obtain ⟨rfl, rfl⟩ := h
      exact ⟨q1.1, isAt_lt hb⟩
     ·cases h
   ·cases h
theorem parse_rok {p : ByteArray} {i : Inf} {b0 b1 : T} (h : IParse p = some (i, b0, b1)) : ROk (T.cons i b0 b1 .nil) := by
 unfold IParse at h
 split at h
 ·cases h
 ·rename_i hp
  split at h
  ·cases h
  ·rename_i j c0 c1 m hs
   split at h
   ·rename_i hm
    simp at h
    obtain ⟨rfl, rfl, rfl⟩ := h
    have hpos : 0 < p.size := by omega
    have q := (roks p (by omega) _).1 _ _ _ _ _ _ _ hs hpos Lets.empty (Nat.zero_le _)
    exact ⟨q.1, q.2.1, q.2.2.1, trivial⟩
   ·cases h
end Go.Proofs.YtojhdfdhfajjjaaDoor.Pl
namespace Go.Proofs.YtojhdfdhfajjjaaDoor.Pl
structure Used (u made evs nv : Nat) : Prop where
 made : made ≤ u
 evs : evs ≤ 500 * u
 nv : nv ≤ 2 * u
theorem Used.mono {u u' made evs nv : Nat} (h : Used u made evs nv) (hu : u ≤ u') : Used u' made evs nv :=
 ⟨by have := h.made; omega, by have := h.evs; omega, by have := h.nv; omega⟩
theorem Used.step {u made evs nv made' evs' nv' : Nat} (h : Used u made evs nv) (h1 : made' ≤ made + 1) (h2 : evs' ≤ evs + 500) (h3 : nv' ≤ nv + 2) : Used (u + 1) made' evs' nv' :=
 ⟨by have := h.made; omega, by have := h.evs; omega, by have := h.nv; omega⟩
theorem seq_budget {u u1 u2 a b c n m : Nat} (hab : a ≤ b) (hbc : b ≤ c) (h1 : u1 ≤ u + n * (1 + (b - a))) (h2 : u2 ≤ u1 + m * (1 + (c - b))) : u2 ≤ u + (n + m) * (1 + (c - a)) := by
 have e1 : n * (1 + (b - a)) ≤ n * (1 + (c - a)) := Nat.mul_le_mul (Nat.le_refl _) (by omega)
 have e2 : m * (1 + (c - b)) ≤ m * (1 + (c - a)) := Nat.mul_le_mul (Nat.le_refl _) (by omega)
 rw [Nat.add_mul]
 omega
theorem loop_budget {u u1 u2 a b c n : Nat} (hab : a ≤ b) (hbc : b + 1 ≤ c) (h1 : u1 ≤ u + n * (b - a)) (h2 : u2 ≤ u1 + n * (1 + (c - (b + 1)))) : u2 ≤ u + n * (c - a) := by
 have e : n * (c - a) = n * (b - a) + n * (1 + (c - (b + 1))) := by rw [← Nat.mul_add]; congr 1; omega
 omega
theorem within_budget {u u1 u2 a b c n m : Nat} (hab : a ≤ b) (hbc : b ≤ c) (hm : n ≤ m) (h1 : u1 ≤ u + 1) (h2 : u2 ≤ u1 + n * (1 + (c - b))) : u2 ≤ u + (1 + m) * (1 + (c - a)) := by
 have e1 : n * (1 + (c - b)) ≤ m * (1 + (c - a)) := Nat.mul_le_mul hm (by omega)
 rw [Nat.add_mul]
 omega
theorem loop_end {u u1 a c n : Nat} (h : u1 ≤ u + 1 + n * (c - a)) : u1 ≤ u + (1 + n) * (1 + (c - a)) := by
 have e1 : n * (c - a) ≤ n * (1 + (c - a)) := Nat.mul_le_mul (Nat.le_refl _) (by omega)
 rw [Nat.add_mul]
 omega
theorem isLet_of {p ar : ByteArray} {n : Nat} (hl : Lets ar) (hn : n < p.size) (h : has ar (bAt p n) = true) : isLet p n = true := by
 have := hl _ h
 simp [isLet, hn, this]
theorem sis_bad {p : ByteArray} {c : UInt8} {s : RS} (h : s.bad = true) : (sis p c s).bad = true := by unfold sis; split <;> simp [adv, badIf, h]
theorem sis_yes {p : ByteArray} {c : UInt8} {n d : Nat} {b : Bool} (h : isAt p n c = true) : sis p c ⟨n, b, d⟩ = ⟨n + 1, b, d⟩ := by simp [sis, h, adv]
theorem sis_no {p : ByteArray} {c : UInt8} {s : RS} (h : isAt p s.at_ c = false) : (sis p c s).bad = true := by simp [sis, h, badIf]
theorem svar_bad {p f : ByteArray} {s : RS} (h : s.bad = true) : (svar p f s).2.bad = true := by unfold svar; split <;> simp [adv, badIf, h]
theorem svarsL_bad (p ar : ByteArray) : ∀ (k : Nat) (acc : ByteArray) (s : RS), s.bad = true → (svarsL p ar k acc s).2.bad = true
 | 0, _, _, h => h
 | k + 1, acc, s, h => by
  unfold svarsL
  split
  ·exact svarsL_bad p ar k _ _ (by simp [badIf, adv, h])
  ·exact h
theorem svars_bad {p ar : ByteArray} {s : RS} (h : s.bad = true) : (svars p ar s).2.bad = true := by
 unfold svars; simp [badIf, svarsL_bad p ar _ _ s h]
theorem SLoop_bad {p ar : ByteArray} {e : UInt8} {s : RS} (h : s.bad = true) : SLoop p ar e s = (.nil, s) := by
 rw [SLoop_eq, if_neg (by simp [h])]
theorem SBody_bad {p ar : ByteArray} {e : UInt8} {s : RS} (h : s.bad = true) : (SBody p ar e s).2.bad = true := by
 rw [SBody_eq, SLoop_bad h]; exact sis_bad h
theorem svar_yes {p ar : ByteArray} {n d : Nat} {b : Bool} (hn : n < p.size) (h : has ar (bAt p n) = true) : svar p ar ⟨n, b, d⟩ = (sub1 p n, ⟨n + 1, b, d⟩) := by
 simp [svar, hn, h, adv]
theorem svar_no {p ar : ByteArray} {s : RS} (h : ¬ (s.at_ < p.size ∧ has ar (bAt p s.at_) = true)) : (svar p ar s).2.bad = true := by
 unfold svar
 rw [if_neg (by simpa using h)]
 simp [badIf]
theorem read1 {p ar : ByteArray} (hl : Lets ar) (n d : Nat) :
  (readVars p ar 1 n ByteArray.empty = none ∧ (svar p ar ⟨n, false, d⟩).2.bad = true) ∨
  (readVars p ar 1 n ByteArray.empty = some (sub1 p n, n + 1) ∧ n < p.size ∧ has ar (bAt p n) = true ∧ svar p ar ⟨n, false, d⟩ = (sub1 p n, ⟨n + 1, false, d⟩)) := by
 by_cases h : n < p.size ∧ has ar (bAt p n) = true
 ·right
  refine ⟨?_, h.1, h.2, svar_yes h.1 h.2⟩
  simp [readVars, isLet_of hl h.1 h.2, h.2, has_empty]
 ·left
  refine ⟨?_, svar_no h⟩
  unfold readVars
  rw [if_neg]
  intro hh
  simp only [Bool.and_eq_true] at hh
  exact h ⟨isLet_lt hh.1.1, hh.1.2⟩
theorem read2 {p ar : ByteArray} (hl : Lets ar) (n d : Nat) :
  let q := svar p ar ⟨n, false, d⟩
  let q' := svar p ar q.2
  (readVars p ar 2 n ByteArray.empty = none ∧ (badIf (decide (q'.1 = q.1)) q'.2).bad = true) ∨
  (readVars p ar 2 n ByteArray.empty = some (q.1 ++ q'.1, n + 2) ∧ badIf (decide (q'.1 = q.1)) q'.2 = ⟨n + 2, false, d⟩) := by
 intro q q'
 by_cases h : n < p.size ∧ has ar (bAt p n) = true
 ·have e : q = (sub1 p n, ⟨n + 1, false, d⟩) := svar_yes h.1 h.2
  have r : readVars p ar 2 n ByteArray.empty = readVars p ar 1 (n + 1) (sub1 p n) := by
   show readVars p ar (1 + 1) n ByteArray.empty = _
   rw [readVars, if_pos (by simp [isLet_of hl h.1 h.2, h.2, has_empty])]
   rw [ba_empty_append]
  by_cases h' : n + 1 < p.size ∧ has ar (bAt p (n + 1)) = true
  ·have e' : q' = (sub1 p (n + 1), ⟨n + 2, false, d⟩) := by show svar p ar q.2 = _; rw [e]; exact svar_yes h'.1 h'.2
   have es : (sub1 p (n + 1) = sub1 p n) ↔ bAt p (n + 1) = bAt p n := by
    constructor
    ·intro hs
     have a := sub1_data h'.1
     rw [hs, sub1_data h.1] at a
     simpa using a.symm
    ·intro hs
     apply ByteArray.ext
     apply Array.ext'
     rw [sub1_data h'.1, sub1_data h.1, hs]
   by_cases hb : bAt p (n + 1) = bAt p n
   ·left
    rw [r, e', e]
    refine ⟨?_, by simp [badIf, es.2 hb]⟩
    unfold readVars
    rw [if_neg]
    simp [has_sub1 h.1, hb]
   ·right
    rw [r, e', e]
    have hne : ¬ (sub1 p (n + 1) = sub1 p n) := fun hh => hb (es.1 hh)
    refine ⟨?_, by simp [badIf, hne]⟩
    unfold readVars
    rw [if_pos (by simp [isLet_of hl h'.1 h'.2, h'.2, has_sub1 h.1, hb])]
    rfl
  ·left
   have hb : q'.2.bad = true := by show (svar p ar q.2).2.bad = true; rw [e]; exact svar_no h'
   refine ⟨?_, by simp [badIf, hb]⟩
   rw [r]
   unfold readVars
   rw [if_neg]
   intro hh
   simp only [Bool.and_eq_true] at hh
   exact h' ⟨isLet_lt hh.1.1, hh.1.2⟩
 ·left
  have hb : q.2.bad = true := svar_no h
  have hb' : q'.2.bad = true := svar_bad hb
  refine ⟨?_, by simp [badIf, hb']⟩
  show readVars p ar (1 + 1) n ByteArray.empty = none
  rw [readVars, if_neg]
  intro hh
  simp only [Bool.and_eq_true] at hh
  exact h ⟨isLet_lt hh.1.1, hh.1.2⟩
theorem decl_eq {p ar : ByteArray} : ∀ (k n d : Nat) (acc : ByteArray), Lets acc →
  (declVars p ar k n acc = none ∧ (svarsL p ar k acc ⟨n, false, d⟩).2.bad = true) ∨
  (∃ vs m, declVars p ar k n acc = some (vs, m) ∧ Lets vs ∧ svarsL p ar k acc ⟨n, false, d⟩ = (vs, ⟨m, false, d⟩))
 | 0, n, d, acc, h => .inr ⟨acc, n, rfl, h, rfl⟩
 | k + 1, n, d, acc, h => by
  unfold declVars svarsL
  by_cases hl : isLet p n = true
  ·rw [if_pos hl, if_pos hl]
   by_cases hh : has (ar ++ acc) (bAt p n) = true
   ·left
    rw [if_pos hh]
    exact ⟨rfl, svarsL_bad p ar k _ _ (by simp [badIf, hh])⟩
   ·rw [if_neg hh]
    have e : badIf (has (ar ++ acc) (bAt p n)) (adv ⟨n, false, d⟩) = ⟨n + 1, false, d⟩ := by simp [badIf, adv, hh]
    show _ ∨ ∃ vs m, _ ∧ _ ∧ svarsL p ar k (acc ++ sub1 p n) (badIf (has (ar ++ acc) (bAt p n)) (adv ⟨n, false, d⟩)) = _
    have := decl_eq (p := p) (ar := ar) k (n + 1) d (acc ++ sub1 p n) (h.append (Lets.sub1 hl))
    show (_ ∧ (svarsL p ar k (acc ++ sub1 p n) (badIf (has (ar ++ acc) (bAt p n)) (adv ⟨n, false, d⟩))).2.bad = true) ∨ _
    rw [e]
    exact this
  ·rw [if_neg hl]
   right
   refine ⟨acc, n, rfl, h, ?_⟩
   rw [if_neg hl]
theorem SStep_none {p ar : ByteArray} {n d : Nat} (hn : n < p.size) (hk : isKind p n = false) : (SStep p ar ⟨n, false, d⟩).2.2.2.bad = true := by
 have h : ∀ c, c ∈ kindsL → bAt p n ≠ c := by
  intro c hc e
  simp [isKind, hn, e] at hk
  exact hk hc
 have g : ∀ c, kindsL.contains c = true → bAt p n ≠ c := fun c hc => h c (by simpa using hc)
 rw [SStep_eq _ _ _ hn]
 simp only []
 rw [if_neg (by simp [g 43 rfl, g 45 rfl, g 46 rfl, g 126 rfl]), if_neg (g 61 rfl), if_neg (by simp [g 94 rfl, g 33 rfl]), if_neg (g 63 rfl), if_neg (g 42 rfl), if_neg (g 123 rfl)]
 simp [badIf]
theorem agree (p : ByteArray) : ∀ d n : Nat, p.size - n = d → ∀ (ar : ByteArray) (sc : Nat), Lets ar → sc ≤ 4 →
  (isKind p n = true → (IStep p n ar sc = none ∧ (SStep p ar ⟨n, false, sc⟩).2.2.2.bad = true) ∨
   ∃ i b0 b1 n1, IStep p n ar sc = some (i, b0, b1, n1) ∧ SStep p ar ⟨n, false, sc⟩ = (i, b0, b1, ⟨n1, false, sc⟩)) ∧
  (∀ e, kindsL.contains e = false → ((∀ t m, ISteps p n ar sc = some (t, m) → isAt p m e = false) ∧ (SBody p ar e ⟨n, false, sc⟩).2.bad = true) ∨
   ∃ t m, ISteps p n ar sc = some (t, m) ∧ isAt p m e = true ∧ SBody p ar e ⟨n, false, sc⟩ = (t, ⟨m + 1, false, sc⟩)) := by
 intro d
 induction d using Nat.strongRecOn with
 | _ d ih =>
  intro n hd ar sc hl hsc
  -- a body in brackets, further on
  have hbody : ∀ m, n < m → (IBody p m ar sc = none ∧ (SBody p ar 93 (sis p 91 ⟨m, false, sc⟩)).2.bad = true) ∨
    ∃ t k, IBody p m ar sc = some (t, k) ∧ SBody p ar 93 (sis p 91 ⟨m, false, sc⟩) = (t, ⟨k, false, sc⟩) := by
   intro m hm
   rw [IBody_eq]
   by_cases ha : isAt p m 91 = true
   ·have hlt := isAt_lt ha
    rw [if_pos ha, sis_yes ha]
    rcases (ih (p.size - (m + 1)) (by omega) (m + 1) rfl ar sc hl hsc).2 93 (by decide) with ⟨h1, h2⟩ | ⟨t, k, h1, h2, h3⟩
    ·left
     refine ⟨?_, h2⟩
     cases hs : ISteps p (m + 1) ar sc with
     | none => rfl
     | some q => obtain ⟨t, k⟩ := q; simp only []; rw [if_neg (by simp [h1 t k hs])]
    ·right
     refine ⟨t, k + 1, ?_, h3⟩
     rw [h1]; simp only []; rw [if_pos h2]
   ·left
    rw [if_neg ha]
    exact ⟨rfl, SBody_bad (sis_no (by simpa using ha))⟩
  have hA : isKind p n = true → (IStep p n ar sc = none ∧ (SStep p ar ⟨n, false, sc⟩).2.2.2.bad = true) ∨
    ∃ i b0 b1 n1, IStep p n ar sc = some (i, b0, b1, n1) ∧ SStep p ar ⟨n, false, sc⟩ = (i, b0, b1, ⟨n1, false, sc⟩) := by
   intro hk
   have hn := isKind_lt hk
   have hc : bAt p n ∈ kindsL := by simp [isKind, hn] at hk; exact hk
   rw [IStep_eq _ _ _ _ hn, SStep_eq _ _ _ hn]
   simp only []
   have ea : adv ⟨n, false, sc⟩ = (⟨n + 1, false, sc⟩ : RS) := rfl
   rw [ea]
   simp only [kindsL, List.mem_cons, List.not_mem_nil, or_false] at hc
   generalize hcc : bAt p n = c at *
   rcases hc with rfl | rfl | rfl | rfl | rfl | rfl | rfl | rfl | rfl | rfl
   all_goals simp (config := { decide := true }) only [many, if_true, if_false]
   -- +
   ·rcases read1 (p := p) hl (n + 1) sc with ⟨r1, r2⟩ | ⟨r1, _, _, r2⟩
    ·left; rw [r1]; exact ⟨rfl, r2⟩
    ·right; rw [r1, r2]; exact ⟨_, _, _, _, rfl, rfl⟩
   -- =
   ·rcases read2 (p := p) hl (n + 1) sc with ⟨r1, r2⟩ | ⟨r1, r2⟩
    ·left; rw [r1]; exact ⟨rfl, r2⟩
    ·right; rw [r1]
     simp only []
     have e2 : (svar p ar (svar p ar ⟨n + 1, false, sc⟩).2).2.at_ = n + 1 + 2 := congrArg RS.at_ r2
     rw [r2, e2]
     exact ⟨_, _, _, _, rfl, rfl⟩
   ·rcases read1 (p := p) hl (n + 1) sc with ⟨r1, r2⟩ | ⟨r1, _, _, r2⟩
    ·left; rw [r1]; exact ⟨rfl, r2⟩
    ·right; rw [r1, r2]; exact ⟨_, _, _, _, rfl, rfl⟩
   ·rcases read1 (p := p) hl (n + 1) sc with ⟨r1, r2⟩ | ⟨r1, _, _, r2⟩
    ·left; rw [r1]; exact ⟨rfl, r2⟩
    ·right; rw [r1, r2]; exact ⟨_, _, _, _, rfl, rfl⟩
   ·rcases read1 (p := p) hl (n + 1) sc with ⟨r1, r2⟩ | ⟨r1, _, _, r2⟩
    ·left; rw [r1]; exact ⟨rfl, r2⟩
    ·right; rw [r1, r2]; exact ⟨_, _, _, _, rfl, rfl⟩
   ·right; exact ⟨_, _, _, _, rfl, rfl⟩
   ·right; exact ⟨_, _, _, _, rfl, rfl⟩
   -- ?
   ·simp only [readVars]
    rcases hbody (n + 1) (by omega) with ⟨h1, h2⟩ | ⟨t, k, h1, h2⟩
    ·left
     rw [h1]
     exact ⟨rfl, SBody_bad (sis_bad h2)⟩
    ·have hk1 := IBody_gt h1
     rw [h1, h2]
     simp only []
     rcases hbody k (by omega) with ⟨h3, h4⟩ | ⟨t', k', h3, h4⟩
     ·left; rw [h3]; exact ⟨rfl, h4⟩
     ·right; rw [h3, h4]; exact ⟨_, _, _, _, rfl, rfl⟩
   -- *
   ·simp only [readVars]
    rcases hbody (n + 1) (by omega) with ⟨h1, h2⟩ | ⟨t, k, h1, h2⟩
    ·left; rw [h1]; exact ⟨rfl, h2⟩
    ·right; rw [h1, h2]; exact ⟨_, _, _, _, rfl, rfl⟩
   -- {
   ·simp only [readVars]
    by_cases h4 : sc = 4
    ·left
     have hb : (into ⟨n + 1, false, sc⟩).bad = true := by simp [into, h4]
     refine ⟨?_, ?_⟩
     ·cases hd : declVars p ar (p.size - (n + 1)) (n + 1) ByteArray.empty with
      | none => rfl
      | some q => obtain ⟨vs, m⟩ := q; simp only []; rw [if_pos (.inr (.inl h4))]
     ·exact SBody_bad (sis_bad (svars_bad hb))
    ·have ei : into ⟨n + 1, false, sc⟩ = (⟨n + 1, false, sc + 1⟩ : RS) := by
      have : ¬ (4 < sc + 1) := by omega
      simp [into, this]
     rw [ei]
     rcases decl_eq (p := p) (ar := ar) (p.size - (n + 1)) (n + 1) (sc + 1) ByteArray.empty Lets.empty with ⟨h1, h2⟩ | ⟨vs, m, h1, hv, h2⟩
     ·left
      rw [h1]
      refine ⟨rfl, ?_⟩
      have hb : (svars p ar ⟨n + 1, false, sc + 1⟩).2.bad = true := by unfold svars; simp [badIf, h2]
      exact SBody_bad (sis_bad hb)
     ·have hm := declVars_gt h1
      rw [h1]
      simp only []
      have esv : svars p ar ⟨n + 1, false, sc + 1⟩ = (vs, badIf (decide (vs.size = 0)) ⟨m, false, sc + 1⟩) := by unfold svars; simp only []; rw [h2]
      rw [esv]
      by_cases hz : vs.size = 0
      ·left
       rw [if_pos (.inl hz)]
       refine ⟨rfl, SBody_bad (sis_bad (by simp [badIf, hz]))⟩
      ·have eb : badIf (decide (vs.size = 0)) ⟨m, false, sc + 1⟩ = (⟨m, false, sc + 1⟩ : RS) := by simp [badIf, hz]
       rw [eb]
       by_cases hcol : isAt p m 58 = true
       ·rw [if_neg (by simp [hz, h4, hcol])]
        simp only []
        rw [sis_yes hcol]
        have hlt := isAt_lt hcol
        rcases (ih (p.size - (m + 1)) (by omega) (m + 1) rfl (ar ++ vs) (sc + 1) (hl.append hv) (by omega)).2 125 (by decide) with ⟨g1, g2⟩ | ⟨t, k, g1, g2, g3⟩
        ·left
         refine ⟨?_, g2⟩
         cases hs : ISteps p (m + 1) (ar ++ vs) (sc + 1) with
         | none => rfl
         | some q => obtain ⟨t, k⟩ := q; simp only []; rw [if_neg (by simp [g1 t k hs])]
        ·right
         rw [g1, g3]
         simp only []
         rw [if_pos g2]
         exact ⟨_, _, _, _, rfl, rfl⟩
       ·left
        rw [if_pos (.inr (.inr (by simpa using hcol)))]
        exact ⟨rfl, SBody_bad (sis_no (by simpa using hcol))⟩
  refine ⟨hA, ?_⟩
  intro e he
  rw [ISteps_eq, SBody_eq, SLoop_eq]
  by_cases hk : isKind p n = true
  ·have hn := isKind_lt hk
   have hne : bAt p n ≠ e := by
    intro h
    simp [isKind, hn, h] at hk
    simp [hk] at he
   rw [if_pos hk, if_pos ⟨rfl, hn, hne⟩]
   simp only []
   rcases hA hk with ⟨h1, h2⟩ | ⟨i, b0, b1, n1, h1, h2⟩
   ·left
    rw [h1]
    refine ⟨fun t m h => by simp at h, ?_⟩
    rw [SLoop_bad h2]
    exact sis_bad h2
   ·rw [h1, h2]
    have hgt := IStep_gt h1
    simp only []
    rcases (ih (p.size - n1) (by omega) n1 rfl ar sc hl hsc).2 e he with ⟨g1, g2⟩ | ⟨t, m, g1, g2, g3⟩
    ·left
     rw [SBody_eq] at g2
     refine ⟨?_, g2⟩
     intro t m h
     cases hs : ISteps p n1 ar sc with
     | none => rw [hs] at h; simp at h
     | some q =>
      obtain ⟨r, k⟩ := q
      rw [hs] at h
      simp at h
      rw [← h.2]
      exact g1 r k hs
    ·right
     rw [g1]
     simp only []
     rw [SBody_eq] at g3
     have e1 := congrArg Prod.fst g3
     have e2 := congrArg Prod.snd g3
     simp only [] at e1 e2
     exact ⟨_, m, rfl, g2, by rw [e1, e2]⟩
  ·rw [if_neg hk]
   by_cases hn : n < p.size ∧ bAt p n ≠ e
   ·left
    refine ⟨fun t m h => ?_, ?_⟩
    ·simp at h
     rw [← h.2]
     simp [isAt, hn]
    ·rw [if_pos ⟨rfl, hn⟩]
     simp only []
     have hb := SStep_none (p := p) (ar := ar) (d := sc) hn.1 (by simpa using hk)
     rw [SLoop_bad hb]
     exact sis_bad hb
   ·rw [if_neg (by rintro ⟨_, h⟩; exact hn h)]
    by_cases ha : isAt p n e = true
    ·right
     exact ⟨.nil, n, rfl, ha, by rw [sis_yes ha]⟩
    ·left
     refine ⟨fun t m h => ?_, sis_no (by simpa using ha)⟩
     simp at h
     rw [← h.2]
     simpa using ha
theorem parse_eq (p : ByteArray) : SParse p = IParse p := by
 unfold SParse IParse
 by_cases h : p.size = 0 ∨ bAt p 0 ≠ 123 ∨ 80 < p.size
 ·rw [if_pos h, if_pos (by rcases h with h | h | h <;> simp [h])]
 ·have h' : ¬ (80 < p.size ∨ p.size = 0 ∨ bAt p 0 ≠ 123) := fun hh => h (by rcases hh with hh | hh | hh <;> simp [hh])
  rw [if_neg h, if_neg h']
  have hk : isKind p 0 = true := by
   have h1 : 0 < p.size := by omega
   have h2 : bAt p 0 = 123 := by
    by_cases e : bAt p 0 = 123
    ·exact e
    ·exact absurd (.inr (.inl e)) h
   simp [isKind, h1, h2, kindsL]
  simp only []
  rcases (agree p (p.size - 0) 0 rfl ByteArray.empty 0 Lets.empty (by omega)).1 hk with ⟨h1, h2⟩ | ⟨i, b0, b1, m, h1, h2⟩
  ·rw [h1, if_pos (.inl h2)]
  ·rw [h1, h2]
   simp only []
   by_cases e : m = p.size
   ·rw [if_neg (by simp [e]), if_pos e]
   ·rw [if_pos (.inr e), if_neg e]
end Go.Proofs.YtojhdfdhfajjjaaDoor.Pl
