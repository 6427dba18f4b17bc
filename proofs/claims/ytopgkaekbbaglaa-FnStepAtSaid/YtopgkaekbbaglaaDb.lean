/- The depth of a step: the program's function. -/
import Derived.Test.YtopgkaekbbaglaaDa
namespace Go.Proofs.Ytopgkaekbbaglaa
open Go.RowKit Pl

/-- the depth of the first bodies -/
def odep (b0 b1 : T) : Nat → Nat
  | 0 => 0
  | 1 => b0.dep
  | _ => max b0.dep b1.dep
theorem odep_step (b0 b1 : T) {j : Nat} (hj : j < 2) : odep b0 b1 (j + 1) = max (odep b0 b1 j) (if j = 0 then b0 else b1).dep := by
  match j, hj with
  | 0, _ => simp [odep]
  | 1, _ => simp [odep]
theorem odep_all (i : Inf) (b0 b1 : T) (h : i.nb ≤ 2) : ndep i b0 b1 = odep b0 b1 i.nb + (if i.kind = 123 then 1 else 0) := by
  unfold ndep
  match hn : i.nb, h with
  | 0, _ => simp [odep]
  | 1, _ => simp [odep]
  | 2, _ => simp [odep]
theorem odep_count (b0 b1 : T) (j : Nat) : odep b0 b1 j ≤ b0.count + b1.count := by
  have h0 := dep_count b0
  have h1 := dep_count b1
  match j with
  | 0 => simp [odep]
  | 1 => simp [odep]; omega
  | j + 2 => simp [odep]; omega
theorem len_count : ∀ t : T, t.len ≤ t.count
  | .nil => Nat.le_refl _
  | .cons i b0 b1 r => by
    have := len_count r
    simp only [T.len, T.count]
    omega
theorem body_count (b0 b1 : T) (j : Nat) : (if j = 0 then b0 else b1).count ≤ b0.count + b1.count := by split <;> omega
/-- one of the bodies of a step, as it lies in memory -/
theorem body_at {w : World} {ok : Nat → Prop} {i : Inf} {b0 b1 : T} {A : Option Addr} {c : Nat} {v0 v1 : Value} {c0 c1 : List Value} (h0 : PCells w ok b0 c0) (o0 : Own w ok 49 v0 c0) (h1 : PCells w ok b1 c1) (o1 : Own w ok 49 v1 c1)
    (hn : i.nb ≤ 2) (ob : Own w ok 56 (.slice A i.nb c) ([v0, v1].take i.nb)) {j : Nat} (hj : j < i.nb) :
    ∃ g B d cs, A = some ⟨g, 0, none⟩ ∧ w.cell? ⟨g, j, none⟩ = some (.slice B cs.length d) ∧ PCells w ok (if j = 0 then b0 else b1) cs ∧ Own w ok 49 (.slice B cs.length d) cs ∧ ok g := by
  have hlen : i.nb = ([v0, v1].take i.nb).length := by simp; omega
  obtain ⟨g, hA, hc⟩ := ob.at hlen hj
  have hg : ok g := ob.let_ g (by rw [hA]; rfl)
  obtain ⟨B0, d0, rfl⟩ := o0.form
  obtain ⟨B1, d1, rfl⟩ := o1.form
  match j, hj with
  | 0, hj => exact ⟨g, B0, d0, c0, hA, by rw [hc, List.getElem?_take_of_lt hj]; rfl, h0, o0, hg⟩
  | 1, hj => exact ⟨g, B1, d1, c1, hA, by rw [hc, List.getElem?_take_of_lt hj]; rfl, h1, o1, hg⟩
  | j + 2, hj => omega
theorem pcells_nil {w : World} {ok : Nat → Prop} {t : T} (h : PCells w ok t []) : t = .nil := by
  cases t with
  | nil => rfl
  | cons i b0 b1 r =>
    obtain ⟨g, bs, v0, v1, rest, c0, c1, e, _⟩ := h
    cases e
theorem pcells_cons {w : World} {ok : Nat → Prop} {t : T} {x : Value} {rest : List Value} (h : PCells w ok t (x :: rest)) :
    ∃ i b0 b1 r g, t = .cons i b0 b1 r ∧ x = .pointer (some ⟨g, 0, none⟩) ∧ PCells w ok (.cons i b0 b1 .nil) [.pointer (some ⟨g, 0, none⟩)] ∧ PCells w ok r rest := by
  cases t with
  | nil => exact absurd (show (x :: rest) = [] from h) (by simp)
  | cons i b0 b1 r =>
    obtain ⟨g, bs, v0, v1, rest', c0, c1, e, hg, hh, h0, o0, h1, o1, hn, ob, hr⟩ := h
    injection e with e1 e2
    subst e1 e2
    exact ⟨i, b0, b1, r, g, rfl, rfl, ⟨g, bs, v0, v1, [], c0, c1, rfl, hg, hh, h0, o0, h1, o1, hn, ob, rfl⟩, hr⟩
/-- an element of a row of steps, with what is behind it -/
theorem elem_at {w : World} {ok : Nat → Prop} {r : T} {cs : List Value} {B : Option Addr} {d k : Nat} (hP : PCells w ok r (cs.drop k)) (hO : Own w ok 49 (.slice B cs.length d) cs) (hk : k < cs.length) :
    ∃ gb i b0 b1 r' g, B = some ⟨gb, 0, none⟩ ∧ r = .cons i b0 b1 r' ∧ w.cell? ⟨gb, k, none⟩ = some (.pointer (some ⟨g, 0, none⟩)) ∧ PCells w ok (.cons i b0 b1 .nil) [.pointer (some ⟨g, 0, none⟩)] ∧ PCells w ok r' (cs.drop (k + 1)) ∧ ok gb := by
  obtain ⟨gb, hB, hc⟩ := hO.at rfl hk
  have hg : ok gb := hO.let_ gb (by rw [hB]; rfl)
  rw [List.drop_eq_getElem_cons hk] at hP
  obtain ⟨i, b0, b1, r', g, hr, hx, h1, h2⟩ := pcells_cons hP
  exact ⟨gb, i, b0, b1, r', g, hB, hr, by rw [hc, List.getElem?_eq_getElem hk, hx], h1, h2, hg⟩

/-- the contract of the program's depth -/
def DepC (i : Inf) (b0 b1 : T) : Prop := ∀ (w : World) (ok : Nat → Prop) (g : Nat), PCells w ok (.cons i b0 b1 .nil) [.pointer (some ⟨g, 0, none⟩)] →
  Calls Try.prog 43 #[.pointer (some ⟨g, 0, none⟩)] w fun e w' => e = .returned (.int .i64 (ndep i b0 b1)) ∧ w' = w
def DepRel (w : World) (ok : Nat → Prop) (cs : List Value) (M N : Nat) (a i' : Value) : Prop :=
  ∃ (k m : Nat) (r : T), k ≤ cs.length ∧ a = .int .i64 m ∧ i' = .int .i64 k ∧ PCells w ok r (cs.drop k) ∧ max m r.dep = M ∧ r.count ≤ N

theorem max_val {a b : Nat} : (if a < b then (b : Int) else (a : Int)) = ((max a b : Nat) : Int) := by
  split <;> omega
set_option maxHeartbeats 1600000 in
set_option maxRecDepth 1000000 in
theorem depth_step (i : Inf) (b0 b1 : T) (hm : (T.cons i b0 b1 .nil).count ≤ 1000000) (ih : ∀ j c0 c1, (T.cons j c0 c1 .nil).count < (T.cons i b0 b1 .nil).count → DepC j c0 c1) : DepC i b0 b1 := by
  intro w ok g hP
  obtain ⟨g', bs, v0, v1, rest, c0, c1, e, hg, hh, h0, o0, h1, o1, hn, ob, hr⟩ := hP
  injection e with e1 e2
  injection e1 with e1
  injection e1 with e1
  injection e1 with e1
  subst e1 e2
  obtain ⟨A, c, rfl⟩ : ∃ A c, bs = .slice A i.nb c := by
    obtain ⟨A, c, hb⟩ := ob.form
    exact ⟨A, c, by rw [hb]; congr 1; simp; omega⟩
  have hk0 : w.cell? ⟨g, 0, none⟩ = some (.int .u8 i.kind.toNat) := by simp [World.cell?, hh]
  have hk5 : w.cell? ⟨g, 5, none⟩ = some (.slice A i.nb c) := by simp [World.cell?, hh]
  have hB := Lib.hid (fun j (hj : j < i.nb) => body_at h0 o0 h1 o1 hn ob hj)
  have IH := Lib.hid ih
  have HD := Lib.hid (odep_all i b0 b1 hn)
  simp only [T.count] at hm
  clear hh h0 o0 h1 o1 ob hr hg ih
  go_enter Try.func43, Try.ntmps43
  go_wp2_with fail
  go_loop [3, 13] (fun a i' => ∃ j : Nat, j ≤ i.nb ∧ a = .int .i64 (odep b0 b1 j) ∧ i' = .int .i64 j) (fun _ i' => i.nb - (intOf i').toNat)
  case atStart => exact ⟨0, Nat.zero_le _, rfl, rfl⟩
  case round =>
    obtain ⟨j, hj, rfl, rfl⟩ := hrel
    by_cases hlt : j < i.nb
    · obtain ⟨gb, B, d, cs, rfl, hc, hP, hO, _⟩ := hB.out j hlt
      have hdc := odep_count b0 b1 j
      have hcl : cs.length ≤ b0.count + b1.count := by rw [hP.length]; exact Nat.le_trans (len_count _) (body_count b0 b1 j)
      have HP := Lib.hid hP
      have HO := Lib.hid hO
      clear hP hO
      go_wp2_with fail
      go_loop [3, 19] (fun a i' => DepRel w ok cs (odep b0 b1 (j + 1)) (b0.count + b1.count) a i') (fun _ i' => cs.length - (intOf i').toNat)
      case atStart => exact ⟨0, odep b0 b1 j, if j = 0 then b0 else b1, Nat.zero_le _, rfl, rfl, HP.out, (odep_step b0 b1 (by omega)).symm, body_count b0 b1 j⟩
      case round =>
        obtain ⟨k, m, r, hk, rfl, rfl, hr, hM, hcn⟩ := hrel
        have HM := Lib.hid hM
        clear hM
        by_cases hlt2 : k < cs.length
        · obtain ⟨g2, i2, d0, d1, r2, gn, rfl, rfl, hc2, hp1, hp2, _⟩ := elem_at hr HO.out hlt2
          have HR := Lib.hid hp2
          have HX := Lib.hid hp1
          have hdn := ndep_count i2 d0 d1
          simp only [T.count] at hcn hdn
          clear hr hp1 hp2
          go_wp2_with fail
          refine (IH.out i2 d0 d1 (by simp only [T.count]; omega) w ok gn HX.out).mono ?_
          rintro e w' ⟨rfl, rfl⟩
          go_wp2_with fail
          go_round
          case rel =>
            refine ⟨k + 1, max m (ndep i2 d0 d1), r2, hlt2, ?_, by go_num, HR.out, ?_, by omega⟩
            · rw [max_val]
            · rw [← HM.out, dep_cons]; omega
          case measure => simp [intOf]; omega
        · have hkn : k = cs.length := by omega
          have hr0 : r = .nil := by rw [hkn, List.drop_length] at hr; exact pcells_nil hr
          subst hr0
          have hmm : m = odep b0 b1 (j + 1) := by rw [← HM.out]; simp [T.dep]
          have HMM := Lib.hid hmm
          clear hr hmm
          go_wp2_with fail
          go_round
          case rel => exact ⟨j + 1, hlt, by rw [HMM.out], by go_num⟩
          case measure => simp [intOf]; omega
    · have hjn : j = i.nb := by omega
      subst hjn
      have hod := odep_count b0 b1 i.nb
      by_cases hk : i.kind = 123
      · have g1 : ((i.kind.toNat : Int) == 123) = true := by rw [hk]; rfl
        have HK := Lib.hid hk
        clear hk
        go_wp2_with fail
        go_ret
        exact ⟨by rw [HD.out, if_pos HK.out]; rfl, rfl⟩
      · have g1 : ((i.kind.toNat : Int) == 123) = false := by
          rw [beq_eq_false_iff_ne]
          intro h
          exact hk ((byte_eq i.kind 123).1 h)
        have HK := Lib.hid hk
        clear hk
        go_wp2_with fail
        go_ret
        exact ⟨by rw [HD.out, if_neg HK.out]; rfl, rfl⟩
theorem depth_any : ∀ (n : Nat) (i : Inf) (b0 b1 : T), n ≤ 1000000 → (T.cons i b0 b1 .nil).count ≤ n → DepC i b0 b1 := by
  intro n
  induction n with
  | zero => intro i b0 b1 _ h; simp [T.count] at h
  | succ n ih => exact fun i b0 b1 hn h => depth_step i b0 b1 (by omega) (fun j c0 c1 hj => ih j c0 c1 (by omega) (by omega))
end Go.Proofs.Ytopgkaekbbaglaa
