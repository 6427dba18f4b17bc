/- The reference's reader of events tells what the program's tells. -/
import Derived.Test.YtlikgaohcnbocaaDoorPEvb
import Derived.Test.YtlikgaohcnbocaaDoorQ47
namespace Go.Proofs.YtlikgaohcnbocaaDoor.Pr
open Go.RowKit Go.Proofs.YtlikgaohcnbocaaDoorW.PrintWords Go.Proofs.YtlikgaohcnbocaaDoorW.PrintLast
def conv (e : S62) : S59 := ⟨bt e.f0 0, e.f1⟩
def readRes : Option Tst → List S59 × Bool
  | none => ([], false)
  | some st => (st.out.map conv, true)
structure StOk (st : Tst) : Prop where
  len : st.out.length ≤ 600
  made0 : 0 ≤ st.made
  made : st.made ≤ st.out.length
  live : st.live.length ≤ st.out.length
  range : ∀ x ∈ st.live, 1 ≤ x ∧ x ≤ st.made
theorem sgn_at {s : ByteArray} {c : UInt8} {r : List UInt8} (h : s.data.toList = c :: r) : (sgn s).toList = [c] := by
  rw [Lib.toList_data]
  unfold sgn
  simp [h]
theorem bt_head {s : ByteArray} {c : UInt8} {r : List UInt8} (h : s.data.toList = c :: r) : bt s 0 = (c.toNat : Int) := by
  have hl : 0 < s.size := by
    have : s.data.toList.length = s.size := Array.length_toList
    rw [h] at this
    simp at this
    omega
  have := bt_at s 0 hl
  simp only [h, List.getElem_cons_zero] at this
  exact this
theorem bt_sgn {s : ByteArray} {c : UInt8} {r : List UInt8} (h : s.data.toList = c :: r) : bt (sgn s) 0 = bt s 0 := by
  have h2 := sgn_at h
  rw [Lib.toList_data] at h2
  rw [bt_head h2, bt_head h]
theorem byte_eq {c d : UInt8} : c = d ↔ (c.toNat : Int) = d.toNat := by
  constructor
  · rintro rfl; rfl
  · intro h; apply UInt8.toNat_inj.1; omega
theorem tsign_in {st : Tst} {s : ByteArray} {n : Int} {st' : Tst} (hst : StOk st) (h : tsign st s n = some st') : 1 ≤ n ∧ n ≤ 601 := by
  have h1 := hst.len
  have h2 := hst.made
  have h3 := hst.made0
  unfold tsign at h
  split at h
  · rename_i hc; omega
  · split at h
    · rename_i hc; have := hst.range n hc.2; omega
    · split at h
      · rename_i hc; have := hst.range n hc.2; omega
      · cases h
theorem tsign_ok {st : Tst} {s : ByteArray} {n : Int} {st' : Tst} (hst : StOk st) (h6 : st.out.length < 600) (h : tsign st s n = some st') : StOk st' := by
  obtain ⟨k1, k2, k3, k4, k5⟩ := hst
  unfold tsign at h
  split at h
  · rename_i hc
    injection h with h
    subst h
    refine ⟨by simp; omega, by dsimp only; omega, by simp; omega, by simp; omega, fun x hx => ?_⟩
    rcases List.mem_append.1 hx with hx | hx
    · have := k5 x hx; dsimp only; omega
    · have := List.mem_singleton.1 hx; dsimp only; omega
  · split at h
    · injection h with h
      subst h
      exact ⟨by simp; omega, k2, by simp; omega, by simp; omega, k5⟩
    · split at h
      · injection h with h
        subst h
        refine ⟨by simp; omega, k2, by simp; omega, ?_, fun x hx => k5 x (List.mem_filter.1 hx).1⟩
        have := List.length_filter_le (fun y => y != n) st.live
        simp only [List.length_append, List.length_singleton]
        omega
      · cases h
theorem tstep_none {st : Tst} {s : ByteArray} {n : Int} {ok : Bool} (hst : StOk st) (hiff : ∀ m : Nat, 1 ≤ m → m ≤ 601 → ((ok = true ∧ n = m) ↔ (dig s).data.toList = Lib.decDigits m)) (h : ok = true → tsign st s n = none) : tstep st s = none := by
  unfold tstep
  split
  · rfl
  · split
    · rfl
    · rename_i n' hn
      split
      · rfl
      · cases ht : tsign st s n' with
        | none => rfl
        | some st' =>
          obtain ⟨a, b⟩ := tsign_in hst ht
          obtain ⟨m, rfl⟩ := Int.eq_ofNat_of_zero_le (show 0 ≤ n' by omega)
          obtain ⟨x, y⟩ := (hiff m (by omega) (by omega)).2 ((numOf_iff s m (by omega) (by omega)).1 hn)
          rw [y] at h
          rw [h x] at ht
          cases ht
theorem tstep_some {st : Tst} {s : ByteArray} {n : Int} {st' : Tst} (hst : StOk st) (hs : s.size ≠ 0) (h6 : st.out.length ≠ 600) (hiff : ∀ m : Nat, 1 ≤ m → m ≤ 601 → ((true = true ∧ n = m) ↔ (dig s).data.toList = Lib.decDigits m)) (h : tsign st s n = some st') : tstep st s = some st' := by
  obtain ⟨a, b⟩ := tsign_in hst h
  obtain ⟨m, rfl⟩ := Int.eq_ofNat_of_zero_le (show 0 ≤ n by omega)
  unfold tstep
  rw [if_neg hs, (numOf_iff s m (by omega) (by omega)).2 ((hiff m (by omega) (by omega)).1 ⟨rfl, rfl⟩)]
  simp only []
  rw [if_neg h6, h]
theorem toList_nil {s : ByteArray} : s.toList = ([] : List UInt8) ↔ s.size = 0 := by
  have h : s.data.toList.length = s.size := Array.length_toList
  rw [Lib.toList_data, ← h]
  exact List.length_eq_zero_iff.symm
set_option maxHeartbeats 1000000 in
theorem read_ev (ws : List ByteArray) (hws : ws.length ≤ 1048577) : ∀ (m i : Nat) (st : Tst), i + m = ws.length → StOk st →
    Ev (fun k => spec_l7Read.l0 k (st.out.map conv) st.made st.live ws (ws.length : Int) (i : Int)) (readRes (tloop (ws.drop i) st))
  | 0, i, st, h, hst => by
    refine Ev.step (f := fun _ => some (st.out.map conv, true)) (fun k => ?_) ?_
    · show spec_l7Read.l0 (k + 1) _ _ _ ws _ _ = _
      rw [spec_l7Read.l0, if_neg (by omega)]
    · rw [tloop_end (by omega)]
      exact Ev.now _
  | m + 1, i, st, h, hst => by
    have hi : i < ws.length := by omega
    rw [tloop_drop hi]
    have hrd : rdOf ByteArray.empty ws (i : Int) = ws[i] := by unfold rdOf; simp [hi]
    generalize ws[i] = s at *
    have no : Ev (fun _ => some (([] : List S59), false)) (readRes none) := Ev.now _
    obtain ⟨k1, k2, k3, k4, k5⟩ := hst
    have hst : StOk st := ⟨k1, k2, k3, k4, k5⟩
    have hml : (st.out.map conv).length = st.out.length := List.length_map ..
    by_cases hbad : s.size = 0 ∨ st.out.length = 600
    · have hts : tstep st s = none := by
        unfold tstep
        rcases hbad with hb | hb
        · rw [if_pos hb]
        · split
          · rfl
          · split
            · rfl
            · first | rfl | rw [if_pos hb]
      rw [hts]
      refine Ev.step (f := fun k => spec_l7Read.j1 k (st.out.map conv) st.made st.live s ws (ws.length : Int) (i : Int) true) (fun k => ?_) (Ev.step (f := fun _ => some (([] : List S59), false)) (fun k => ?_) no)
      · show spec_l7Read.l0 (k + 1) _ _ _ ws _ _ = _
        rw [spec_l7Read.l0, if_pos (by omega), if_pos (by omega), if_pos (by omega), hrd]
        by_cases hz : s.size = 0
        · rw [if_pos (toList_nil.2 hz)]
        · rw [if_neg (fun e => hz (toList_nil.1 e)), hml, decide_eq_true (by omega)]
      · show spec_l7Read.j1 (k + 1) _ _ _ _ ws _ _ true = _
        rw [spec_l7Read.j1, if_pos rfl]
    · have hz : s.size ≠ 0 := fun e => hbad (.inl e)
      have h6 : st.out.length ≠ 600 := fun e => hbad (.inr e)
      obtain ⟨n, ok, hev, hiff⟩ := num_ev (dig s)
      obtain ⟨c, r, hcr⟩ : ∃ c r, s.data.toList = c :: r := by
        cases hl : s.data.toList with
        | nil => have : s.data.toList.length = s.size := Array.length_toList; rw [hl] at this; simp at this; omega
        | cons c r => exact ⟨c, r, rfl⟩
      have hsg := sgn_at hcr
      have hbh := bt_head hcr
      have hcv : ∀ n : Int, conv ⟨sgn s, n⟩ = (⟨bt s 0, n⟩ : S59) := fun n => by unfold conv; rw [bt_sgn hcr]
      refine Ev.step (f := fun k => spec_l7Read.j1 k (st.out.map conv) st.made st.live s ws (ws.length : Int) (i : Int) false) (fun k => ?_) ?_
      · show spec_l7Read.l0 (k + 1) _ _ _ ws _ _ = _
        rw [spec_l7Read.l0, if_pos (by omega), if_pos (by omega), if_pos (by omega), hrd, if_neg (fun e => hz (toList_nil.1 e)), hml, decide_eq_false (by omega)]
      · refine Ev.step (f := fun k => (spec_l13Num.f k (dig s)).bind fun b => if b.2 = true then (if bt s 0 = 43 then spec_l7Read.j2 k (st.out.map conv) st.made st.live b.1 ws (ws.length : Int) (i : Int) (b.1 == wrap64 (st.made + 1)) (bt s 0) b.1 else spec_l7Read.j2 k (st.out.map conv) st.made st.live b.1 ws (ws.length : Int) (i : Int) false (bt s 0) b.1) else some (([] : List S59), false)) (fun k => ?_) (Ev.bind hev ?_)
        · show spec_l7Read.j1 (k + 1) _ _ _ _ ws _ _ false = _
          rw [spec_l7Read.j1, if_neg (by decide), if_pos (by omega)]
          simp only [if_pos (show (0 : Int) < (s.size : Int) by omega)]
          rfl
        · -- the step
          have next : ∀ st', tsign st s n = some st' → ok = true → Ev (fun k => spec_l7Read.l0 k (st'.out.map conv) st'.made st'.live ws (ws.length : Int) ((i + 1 : Nat) : Int)) (readRes (match tstep st s with | none => none | some st' => tloop (ws.drop (i + 1)) st')) := by
            intro st' ht hok
            subst hok
            rw [tstep_some hst hz h6 hiff ht]
            exact read_ev ws hws m (i + 1) st' (by omega) (tsign_ok hst (by omega) ht)
          have stop : (ok = true → tsign st s n = none) → Ev (fun _ => some (([] : List S59), false)) (readRes (match tstep st s with | none => none | some st' => tloop (ws.drop (i + 1)) st')) := by
            intro ht
            rw [tstep_none hst hiff ht]
            exact no
          cases ok with
          | false =>
            refine Ev.congr (f := fun _ => some (([] : List S59), false)) (fun k => ?_) (stop (fun e => by cases e))
            simp
          | true =>
            have hlv : st.live.length ≤ 1000000 := by omega
            have mapc : ∀ n : Int, (st.out ++ [(⟨sgn s, n⟩ : S62)]).map conv = st.out.map conv ++ [(⟨bt s 0, n⟩ : S59)] := fun n => by rw [List.map_append, List.map_cons, List.map_nil, hcv]
            have hwi : wrap64 ((i : Int) + 1) = ((i + 1 : Nat) : Int) := by rw [wrap_small (by omega) (by omega)]; rfl
            by_cases c43 : c = 43
            · have b43 : bt s 0 = 43 := by rw [hbh, c43]; rfl
              by_cases hn : n = st.made + 1
              · have ht : tsign st s n = some ⟨st.out ++ [⟨sgn s, n⟩], st.made + 1, st.live ++ [n]⟩ := by unfold tsign; rw [if_pos ⟨by rw [hsg, c43], hn⟩]
                have N := next _ ht rfl
                refine Ev.congr (f := fun k => spec_l7Read.j2 k (st.out.map conv) st.made st.live n ws (ws.length : Int) (i : Int) true (bt s 0) n) (fun k => ?_) (Ev.step (fun k => ?_) N)
                · dsimp only
                  rw [if_pos rfl, if_pos b43, show (n == wrap64 (st.made + 1)) = true by rw [wrap_small (by omega) (by omega)]; exact beq_iff_eq.2 hn]
                · show spec_l7Read.j2 (k + 1) _ _ _ _ ws _ _ true _ _ = _
                  rw [spec_l7Read.j2, if_pos rfl, if_pos (by omega), if_pos (by rw [hml]; omega), hwi, mapc, ← hn]
              · have ht : tsign st s n = none := by
                  unfold tsign
                  rw [if_neg (fun h => hn h.2), if_neg (fun h => by rw [hsg, c43] at h; exact absurd h.1 (by decide)), if_neg (fun h => by rw [hsg, c43] at h; exact absurd h.1 (by decide))]
                refine Ev.congr (f := fun k => spec_l7Read.j2 k (st.out.map conv) st.made st.live n ws (ws.length : Int) (i : Int) false (bt s 0) n) (fun k => ?_) (Ev.step (f := fun k => spec_l7Read.j3 k (st.out.map conv) st.made st.live n ws (ws.length : Int) (i : Int) false (bt s 0) n) (fun k => ?_) (Ev.step (fun k => ?_) (stop (fun _ => ht))))
                · dsimp only
                  rw [if_pos rfl, if_pos b43, show (n == wrap64 (st.made + 1)) = false by rw [wrap_small (by omega) (by omega)]; exact beq_eq_false_iff_ne.2 hn]
                · show spec_l7Read.j2 (k + 1) _ _ _ _ ws _ _ false _ _ = _
                  rw [spec_l7Read.j2, if_neg (by decide), if_neg (by omega)]
                · show spec_l7Read.j3 (k + 1) _ _ _ _ ws _ _ false _ _ = _
                  rw [spec_l7Read.j3, if_neg (by decide), if_neg (by omega)]
            · have b43 : ¬ bt s 0 = 43 := fun e => c43 (byte_eq.2 (by rw [← hbh, e]; rfl))
              have n43 : ¬ ((sgn s).toList = [43] ∧ n = st.made + 1) := fun h => c43 (by rw [hsg] at h; exact (List.cons.inj h.1).1)
              refine Ev.congr (f := fun k => spec_l7Read.j2 k (st.out.map conv) st.made st.live n ws (ws.length : Int) (i : Int) false (bt s 0) n) (fun k => by dsimp only; rw [if_pos rfl, if_neg b43]) ?_
              by_cases c46 : c = 46
              · have b46 : bt s 0 = 46 := by rw [hbh, c46]; rfl
                refine Ev.step (f := fun k => (spec_l7In.f k st.live n).bind fun t => spec_l7Read.j3 k (st.out.map conv) st.made st.live n ws (ws.length : Int) (i : Int) t (bt s 0) n) (fun k => ?_) (Ev.bind (l7In_ev st.live n hlv) ?_)
                · show spec_l7Read.j2 (k + 1) _ _ _ _ ws _ _ false _ _ = _
                  rw [spec_l7Read.j2, if_neg (by decide), if_pos b46]
                · by_cases hliv : n ∈ st.live
                  · have ht : tsign st s n = some ⟨st.out ++ [⟨sgn s, n⟩], st.made, st.live⟩ := by unfold tsign; rw [if_neg n43, if_pos ⟨by rw [hsg, c46], hliv⟩]
                    have N := next _ ht rfl
                    refine Ev.step (fun k => ?_) N
                    show spec_l7Read.j3 (k + 1) _ _ _ _ ws _ _ (decide (n ∈ st.live)) _ _ = _
                    rw [spec_l7Read.j3, decide_eq_true hliv, if_pos rfl, if_pos (by rw [hml]; omega), hwi, mapc]
                  · have ht : tsign st s n = none := by unfold tsign; rw [if_neg n43, if_neg (fun h => hliv h.2), if_neg (fun h => hliv h.2)]
                    refine Ev.step (fun k => ?_) (stop (fun _ => ht))
                    show spec_l7Read.j3 (k + 1) _ _ _ _ ws _ _ (decide (n ∈ st.live)) _ _ = _
                    rw [spec_l7Read.j3, decide_eq_false hliv, if_neg (by decide), if_neg (by omega)]
              · have b46 : ¬ bt s 0 = 46 := fun e => c46 (byte_eq.2 (by rw [← hbh, e]; rfl))
                have n46 : ¬ ((sgn s).toList = [46] ∧ n ∈ st.live) := fun h => c46 (by rw [hsg] at h; exact (List.cons.inj h.1).1)
                refine Ev.step (f := fun k => spec_l7Read.j3 k (st.out.map conv) st.made st.live n ws (ws.length : Int) (i : Int) false (bt s 0) n) (fun k => ?_) ?_
                · show spec_l7Read.j2 (k + 1) _ _ _ _ ws _ _ false _ _ = _
                  rw [spec_l7Read.j2, if_neg (by decide), if_neg b46]
                · by_cases c45 : c = 45
                  · have b45 : bt s 0 = 45 := by rw [hbh, c45]; rfl
                    by_cases hliv : n ∈ st.live
                    · have ht : tsign st s n = some ⟨st.out ++ [⟨sgn s, n⟩], st.made, st.live.filter (fun y => y != n)⟩ := by unfold tsign; rw [if_neg n43, if_neg n46, if_pos ⟨by rw [hsg, c45], hliv⟩]
                      have N := next _ ht rfl
                      refine Ev.step (f := fun k => (spec_l7In.f k st.live n).bind fun t238 => (if t238 = true then ((spec_l7Without.f k st.live n).bind fun t239 => (if (st.out.map conv).length < 8796093022208 then (spec_l7Read.l0 k (st.out.map conv ++ [(⟨bt s 0, n⟩ : S59)]) st.made t239 ws (ws.length : Int) (wrap64 ((i : Int) + 1))) else (none))) else (some ((([] : List (S59))), false)))) (fun k => ?_) (Ev.bind (l7In_ev st.live n hlv) ?_)
                      · show spec_l7Read.j3 (k + 1) _ _ _ _ ws _ _ false _ _ = _
                        rw [spec_l7Read.j3, if_neg (by decide), if_pos b45]
                      · refine Ev.congr (fun k => ?_) (Ev.bind (f := fun k t239 => spec_l7Read.l0 k (st.out.map conv ++ [(⟨bt s 0, n⟩ : S59)]) st.made t239 ws (ws.length : Int) ((i + 1 : Nat) : Int)) (l7Without_ev st.live n hlv) ?_)
                        · try dsimp only
                          rw [decide_eq_true hliv, if_pos rfl]
                          simp only [if_pos (show (st.out.map conv).length < 8796093022208 by rw [hml]; omega), hwi]
                        · dsimp only at N
                          rw [mapc] at N
                          exact N
                    · have ht : tsign st s n = none := by unfold tsign; rw [if_neg n43, if_neg n46, if_neg (fun h => hliv h.2)]
                      refine Ev.step (f := fun k => (spec_l7In.f k st.live n).bind fun t238 => (if t238 = true then ((spec_l7Without.f k st.live n).bind fun t239 => (if (st.out.map conv).length < 8796093022208 then (spec_l7Read.l0 k (st.out.map conv ++ [(⟨bt s 0, n⟩ : S59)]) st.made t239 ws (ws.length : Int) (wrap64 ((i : Int) + 1))) else (none))) else (some ((([] : List (S59))), false)))) (fun k => ?_) (Ev.bind (l7In_ev st.live n hlv) (Ev.congr (fun k => ?_) (stop (fun _ => ht))))
                      · show spec_l7Read.j3 (k + 1) _ _ _ _ ws _ _ false _ _ = _
                        rw [spec_l7Read.j3, if_neg (by decide), if_pos b45]
                      · try dsimp only
                        rw [decide_eq_false hliv, if_neg (by decide)]
                  · have b45 : ¬ bt s 0 = 45 := fun e => c45 (byte_eq.2 (by rw [← hbh, e]; rfl))
                    have ht : tsign st s n = none := by unfold tsign; rw [if_neg n43, if_neg n46, if_neg (fun h => c45 (by rw [hsg] at h; exact (List.cons.inj h.1).1))]
                    refine Ev.step (fun k => ?_) (stop (fun _ => ht))
                    show spec_l7Read.j3 (k + 1) _ _ _ _ ws _ _ false _ _ = _
                    rw [spec_l7Read.j3, if_neg (by decide), if_neg b45]
theorem l7Read_ev (a0 : ByteArray) (hs : a0.size ≤ 1048576) : Ev (fun k => spec_l7Read.f k a0) ((toldOf a0).1.map conv, (toldOf a0).2.2) := by
  by_cases h : a0.toList = [45]
  · refine Ev.congr (f := fun _ => some (([] : List S59), true)) (fun k => ?_) ?_
    · unfold spec_l7Read.f
      rw [Option.bind_some, if_pos h]
    · unfold toldOf
      rw [if_pos h]
      exact Ev.now _
  · have hpl := pieces_length a0
    have hc := Lib.countB_le ⟨#[32]⟩ (by decide) a0.size a0 (Nat.le_refl _)
    have R := read_ev (pieces a0) (by omega) (pieces a0).length 0 ⟨[], 0, []⟩ (by omega) ⟨by simp, by simp, by simp, by simp, by simp⟩
    refine Ev.congr (f := fun k => (spec_l13Cut.f k a0 32).bind fun t => spec_l7Read.l0 k [] 0 [] t (t.length : Int) 0) (fun k => ?_) (Ev.bind (l13Cut_ev a0 hs) ?_)
    · unfold spec_l7Read.f
      rw [Option.bind_some, if_neg h]
    · unfold toldOf
      rw [if_neg h]
      rw [List.drop_zero] at R
      cases ht : tloop (pieces a0) ⟨[], 0, []⟩ with
      | none => rw [ht] at R; exact R
      | some st => rw [ht] at R; exact R
end Go.Proofs.YtlikgaohcnbocaaDoor.Pr
