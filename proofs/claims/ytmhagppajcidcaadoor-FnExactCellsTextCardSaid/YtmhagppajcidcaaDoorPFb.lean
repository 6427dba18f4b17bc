/- The loops of lives and of what is alive come to the lives of told events. -/
import Derived.Test.YtmhagppajcidcaaDoorPFa
import Derived.Test.YtmhagppajcidcaaDoorPEv
import Derived.Test.YtmhagppajcidcaaDoorQ44
import Derived.Test.YtmhagppajcidcaaDoorQ35
import Derived.Test.YtmhagppajcidcaaDoorQ41
import Derived.Test.YtmhagppajcidcaaDoorQ17
import Derived.Test.YtmhagppajcidcaaDoorQ20
import Derived.Test.YtmhagppajcidcaaDoorQ21
namespace Go.Proofs.YtmhagppajcidcaaDoor.Pr
open Go.RowKit Go.Proofs.YtmhagppajcidcaaDoorW.PrintWords Go.Proofs.YtmhagppajcidcaaDoorW.PrintLast Go.Proofs.YtmhagppajcidcaaDoorW.PrintMore
theorem bt_sign {s : ByteArray} {c : UInt8} (h : s.toList = [c]) : bt s 0 = (c.toNat : Int) := bt_head (by rw [← Lib.toList_data]; exact h)
theorem rd62_at {o : List S50} {i : Nat} {e : S50} (h : o[i]? = some e) : rd_T50 o (i : Int) = e := by
  unfold rd_T50
  rw [List.getD_eq_getElem?_getD, Int.toNat_natCast, h]
  rfl
theorem rd59_at {o : List S50} {i : Nat} {e : S50} (h : o[i]? = some e) : rd_T52 (o.map conv) (i : Int) = conv e := by
  unfold rd_T52
  rw [List.getD_eq_getElem?_getD, Int.toNat_natCast, List.getElem?_map, h]
  rfl
theorem conv_43 {e : S50} (h : e.f0.toList = [43]) : (conv e).f0 = 43 := bt_sign h
theorem conv_46 {e : S50} (h : e.f0.toList = [46]) : (conv e).f0 = 46 := bt_sign h
theorem conv_45 {e : S50} (h : e.f0.toList = [45]) : (conv e).f0 = 45 := bt_sign h
theorem conv_f1 (e : S50) : (conv e).f1 = e.f1 := rfl
theorem lives_go {o : List S50} {m : Nat} {l : List Int} (h : Good o m l) (hl : o.length ≤ 1000000) : ∀ (d i : Nat), i + d = o.length →
    Ev (fun k => spec_l7Lives.l0 k (lvs (o.take i)) (o.map conv) ((o.map conv).length : Int) (i : Int)) (lvs o)
  | 0, i, hi => by
    refine Ev.step (f := fun _ => some (lvs o)) (fun k => ?_) (Ev.now _)
    show spec_l7Lives.l0 (k + 1) _ _ _ _ = _
    rw [spec_l7Lives.l0, if_neg (by simp; omega), List.take_of_length_le (by omega)]
  | d + 1, i, hi => by
    obtain ⟨e, m', l', h1, h2, h3, h4, h5⟩ := h.step i (by omega)
    have ih := lives_go h hl d (i + 1) (by omega)
    have hm := h3.made
    have hll := h3.lvs_length
    simp only [List.length_take] at hm
    refine Ev.step (fun k => ?_) ih
    show spec_l7Lives.l0 (k + 1) _ _ _ _ = _
    rw [spec_l7Lives.l0, if_pos (by simp; omega), if_pos (by omega), if_pos (by simp; omega), rd59_at h1, wrap_up (by omega), h2, lvs_snoc, List.length_take, Nat.min_eq_left (by omega)]
    rcases h5 with ⟨hs, _⟩ | ⟨hs, hn, _⟩ | ⟨hs, hn, _⟩
    · rw [if_pos (conv_43 hs), if_pos (by omega), lvset1_43 hs]
    · have hr := h3.range _ hn
      have hw : wrap64 (e.f1 - 1) = e.f1 - 1 := wrap_small (by omega) (by omega)
      rw [if_neg (by rw [conv_46 hs]; decide), if_pos (conv_46 hs), conv_f1, hw, if_pos (by omega), if_pos (by omega), lvset1_46 hs]
    · have hr := h3.range _ hn
      have hw : wrap64 (e.f1 - 1) = e.f1 - 1 := wrap_small (by omega) (by omega)
      rw [if_neg (by rw [conv_45 hs]; decide), if_neg (by rw [conv_45 hs]; decide), if_pos (conv_45 hs), conv_f1, hw, if_pos (by omega), if_pos (by omega), lvset1_45 hs]
theorem lives_ev {o : List S50} {m : Nat} {l : List Int} (h : Good o m l) (hl : o.length ≤ 1000000) : Ev (fun k => spec_l7Lives.f k (o.map conv)) (lvs o) :=
  lives_go h hl o.length 0 (by omega)
theorem lives_told {o : List S50} {m : Nat} {l : List Int} (h : Good o m l) (hl : o.length ≤ 1000000) : impl_lives.f o (m : Int) = some (lvs o) := by
  have hm := h.made
  unfold impl_lives.f
  rw [if_pos ⟨by omega, by omega, by omega, h.values⟩, Int.toNat_natCast, h.lvloop m (Nat.le_refl _), Nat.sub_self]
  simp
/-! alive -/
theorem alive_go (xs : List S44) (a1 : Int) (hx : xs.length ≤ 1000000) : ∀ (d i : Nat) (acc : List Int), i + d = xs.length → acc.length ≤ i →
    Ev (fun k => impl_alive.l0 k a1 acc xs (xs.length : Int) (i : Int)) (acc ++ alv (xs.drop i) i a1)
  | 0, i, acc, hi, ha => by
    refine Ev.step (f := fun _ => some (acc ++ alv (xs.drop i) i a1)) (fun k => ?_) (Ev.now _)
    show impl_alive.l0 (k + 1) _ _ _ _ _ = _
    rw [impl_alive.l0, if_neg (by omega), List.drop_of_length_le (by omega), alv, List.append_nil]
  | d + 1, i, acc, hi, ha => by
    have hlt : i < xs.length := by omega
    have ih1 := alive_go xs a1 hx d (i + 1) acc (by omega) (by omega)
    have ih2 := alive_go xs a1 hx d (i + 1) (acc ++ [((i + 1 : Nat) : Int)]) (by omega) (by simp; omega)
    rw [List.drop_eq_getElem_cons hlt, alv]
    by_cases h : xs[i].f0 ≤ a1 ∧ (xs[i].f2 < 0 ∨ a1 < xs[i].f2)
    · rw [if_pos h]
      rw [List.append_assoc] at ih2
      refine Ev.step (fun k => ?_) ih2
      show impl_alive.l0 (k + 1) _ _ _ _ _ = _
      rw [impl_alive.l0, if_pos (by omega), if_pos (by omega), if_pos (by omega), rd48_at hlt, wrap_up (by omega), if_pos h.1]
      by_cases h2 : xs[i].f2 < 0
      · rw [if_pos h2, if_pos (by omega)]
      · rw [if_neg h2, if_pos (by omega), if_pos (by omega)]
    · rw [if_neg h]
      refine Ev.step (fun k => ?_) ih1
      show impl_alive.l0 (k + 1) _ _ _ _ _ = _
      rw [impl_alive.l0, if_pos (by omega), if_pos (by omega), if_pos (by omega), rd48_at hlt, wrap_up (by omega)]
      by_cases h2 : xs[i].f0 ≤ a1
      · rw [if_pos h2, if_neg (by omega), if_neg (by omega)]
      · rw [if_neg h2]
theorem alive_ev (xs : List S44) (a1 : Int) (hx : xs.length ≤ 1000000) : Ev (fun k => impl_alive.f k xs a1) (alv xs 0 a1) :=
  alive_go xs a1 hx xs.length 0 [] (by omega) (by simp)
theorem l7Alive_go (xs : List S44) (a1 : Int) (hx : xs.length ≤ 1000000) : ∀ (d i : Nat) (acc : List Int), i + d = xs.length → acc.length ≤ i →
    Ev (fun k => spec_l7Alive.l0 k a1 acc xs (xs.length : Int) (i : Int)) (acc ++ alv (xs.drop i) i a1)
  | 0, i, acc, hi, ha => by
    refine Ev.step (f := fun _ => some (acc ++ alv (xs.drop i) i a1)) (fun k => ?_) (Ev.now _)
    show spec_l7Alive.l0 (k + 1) _ _ _ _ _ = _
    rw [spec_l7Alive.l0, if_neg (by omega), List.drop_of_length_le (by omega), alv, List.append_nil]
  | d + 1, i, acc, hi, ha => by
    have hlt : i < xs.length := by omega
    have ih1 := l7Alive_go xs a1 hx d (i + 1) acc (by omega) (by omega)
    have ih2 := l7Alive_go xs a1 hx d (i + 1) (acc ++ [((i + 1 : Nat) : Int)]) (by omega) (by simp; omega)
    rw [List.drop_eq_getElem_cons hlt, alv]
    by_cases h : xs[i].f0 ≤ a1 ∧ (xs[i].f2 < 0 ∨ a1 < xs[i].f2)
    · rw [if_pos h]
      rw [List.append_assoc] at ih2
      refine Ev.step (fun k => ?_) ih2
      show spec_l7Alive.l0 (k + 1) _ _ _ _ _ = _
      rw [spec_l7Alive.l0, if_pos (by omega), if_pos (by omega), if_pos (by omega), rd48_at hlt, wrap_up (by omega), if_pos h.1]
      by_cases h2 : xs[i].f2 < 0
      · rw [if_pos h2, if_pos (by omega)]
      · rw [if_neg h2, if_pos (by omega), if_pos (by omega)]
    · rw [if_neg h]
      refine Ev.step (fun k => ?_) ih1
      show spec_l7Alive.l0 (k + 1) _ _ _ _ _ = _
      rw [spec_l7Alive.l0, if_pos (by omega), if_pos (by omega), if_pos (by omega), rd48_at hlt, wrap_up (by omega)]
      by_cases h2 : xs[i].f0 ≤ a1
      · rw [if_pos h2, if_neg (by omega), if_neg (by omega)]
      · rw [if_neg h2]
theorem l7Alive_ev (xs : List S44) (a1 : Int) (hx : xs.length ≤ 1000000) : Ev (fun k => spec_l7Alive.f k xs a1) (alv xs 0 a1) :=
  l7Alive_go xs a1 hx xs.length 0 [] (by omega) (by simp)
/-! lists of numbers: equal, marked, held -/
theorem eqInt_go (xs : List Int) (hx : xs.length ≤ 100000000) : ∀ (d i : Nat), i + d = xs.length → Ev (fun k => laws_eqIntS.l0 k xs xs (i : Int)) true
  | 0, i, hi => by
    refine Ev.step (f := fun _ => some true) (fun k => ?_) (Ev.now _)
    show laws_eqIntS.l0 (k + 1) _ _ _ = _
    rw [laws_eqIntS.l0, if_neg (by omega)]
  | d + 1, i, hi => by
    refine Ev.step (fun k => ?_) (eqInt_go xs hx d (i + 1) (by omega))
    show laws_eqIntS.l0 (k + 1) _ _ _ = _
    rw [laws_eqIntS.l0, if_pos (by omega), if_pos (by omega), if_pos (by omega), if_pos rfl, wrap_up (by omega)]
theorem eqInt_ev (xs : List Int) (hx : xs.length ≤ 100000000) : Ev (fun k => laws_eqIntS.f k xs xs) true := by
  refine Ev.congr (fun k => ?_) (eqInt_go xs hx xs.length 0 (by omega))
  show laws_eqIntS.f k xs xs = _
  unfold laws_eqIntS.f
  rw [if_pos rfl]
  rfl
def upto : Nat → List Int
  | 0 => []
  | n + 1 => upto n ++ [((n + 1 : Nat) : Int)]
theorem upto_length : ∀ n, (upto n).length = n
  | 0 => rfl
  | n + 1 => by rw [upto, List.length_append, upto_length n]; rfl
theorem upto_get : ∀ (n i : Nat) (h : i < (upto n).length), (upto n)[i] = ((i + 1 : Nat) : Int)
  | 0, i, h => by simp [upto] at h
  | n + 1, i, h => by
    rw [upto_length] at h
    simp only [upto]
    by_cases hi : i < n
    · rw [List.getElem_append_left (by rw [upto_length]; exact hi), upto_get n i]
    · obtain rfl : i = n := by omega
      rw [List.getElem_append_right (by rw [upto_length]; omega)]
      simp [upto_length]
theorem mark_go (xs : List Int) (hx : xs.length ≤ 1000000) : ∀ (d i : Nat), i + d = xs.length → Ev (fun k => laws_markIntS.l0 k (upto i ++ xs.drop i) ((i + 1 : Nat) : Int) (i : Int)) (((xs.length + 1 : Nat) : Int), upto xs.length)
  | 0, i, hi => by
    obtain rfl : i = xs.length := by omega
    refine Ev.step (f := fun _ => some (((xs.length + 1 : Nat) : Int), upto xs.length)) (fun k => ?_) (Ev.now _)
    show laws_markIntS.l0 (k + 1) _ _ _ = _
    rw [laws_markIntS.l0, List.drop_length, List.append_nil, upto_length, if_neg (by omega)]
  | d + 1, i, hi => by
    have hlt : i < xs.length := by omega
    refine Ev.step (fun k => ?_) (mark_go xs hx d (i + 1) (by omega))
    show laws_markIntS.l0 (k + 1) _ _ _ = _
    rw [laws_markIntS.l0, if_pos (by rw [List.length_append, upto_length, List.length_drop]; omega), if_pos (by omega), wrap_up (by omega), wrap_up (by omega)]
    congr 1
    rw [Int.toNat_natCast, List.set_append_right _ _ (by rw [upto_length]; omega), upto_length, Nat.sub_self, List.drop_eq_getElem_cons hlt, List.set_cons_zero, upto, List.append_assoc]
    rfl
theorem mark_ev (xs : List Int) (hx : xs.length ≤ 1000000) : Ev (fun k => laws_markIntS.f k xs 1) (((xs.length + 1 : Nat) : Int), upto xs.length) :=
  mark_go xs hx xs.length 0 (by omega)
theorem held_go (n : Nat) (hx : n ≤ 1000000) : ∀ (d i : Nat), i + d = n → Ev (fun k => laws_heldIntS.l0 k (upto n) ((i + 1 : Nat) : Int) (i : Int)) ((n + 1 : Nat) : Int)
  | 0, i, hi => by
    obtain rfl : i = n := by omega
    refine Ev.step (f := fun _ => some ((i + 1 : Nat) : Int)) (fun k => ?_) (Ev.now _)
    show laws_heldIntS.l0 (k + 1) _ _ _ = _
    rw [laws_heldIntS.l0, upto_length, if_neg (by omega)]
  | d + 1, i, hi => by
    refine Ev.step (fun k => ?_) (held_go n hx d (i + 1) (by omega))
    show laws_heldIntS.l0 (k + 1) _ _ _ = _
    rw [laws_heldIntS.l0, if_pos (by rw [upto_length]; omega), if_pos (by omega), rd_at (by rw [upto_length]; omega), upto_get, if_pos rfl, wrap_up (by omega), wrap_up (by omega)]
theorem held_ev (n : Nat) (hx : n ≤ 1000000) : Ev (fun k => laws_heldIntS.f k (upto n) 1) ((n + 1 : Nat) : Int) :=
  held_go n hx n 0 (by omega)
/-! told -/
def TG (st : Tst) : Prop := ∃ m : Nat, st.made = (m : Int) ∧ Good st.out m st.live
theorem tsign_good {st st' : Tst} {s : ByteArray} {n : Int} (g : TG st) (h : tsign st s n = some st') : TG st' := by
  obtain ⟨m, hm, g⟩ := g
  unfold tsign at h
  split at h
  · rename_i hc
    injection h with h
    subst h
    obtain ⟨hs, hn⟩ := hc
    refine ⟨m + 1, by dsimp only; omega, ?_⟩
    have e : n = ((m + 1 : Nat) : Int) := by omega
    rw [e]
    exact g.make hs
  · split at h
    · rename_i hc
      injection h with h
      subst h
      exact ⟨m, hm, g.use hc.1 hc.2⟩
    · split at h
      · rename_i hc
        injection h with h
        subst h
        exact ⟨m, hm, g.kill hc.1 hc.2⟩
      · cases h
theorem tsign_len {st st' : Tst} {s : ByteArray} {n : Int} (h : tsign st s n = some st') : st'.out.length = st.out.length + 1 := by
  unfold tsign at h
  split at h
  · injection h with h; subst h; simp
  · split at h
    · injection h with h; subst h; simp
    · split at h
      · injection h with h; subst h; simp
      · cases h
theorem tloop_good : ∀ (ws : List ByteArray) (st st' : Tst), TG st → st.out.length ≤ 600 → tloop ws st = some st' → TG st' ∧ st'.out.length ≤ 600
  | [], st, st', g, hl, h => by
    rw [tloop] at h
    injection h with h
    subst h
    exact ⟨g, hl⟩
  | s :: r, st, st', g, hl, h => by
    rw [tloop] at h
    cases hs : tstep st s with
    | none => rw [hs] at h; cases h
    | some st1 =>
      rw [hs] at h
      unfold tstep at hs
      split at hs
      · cases hs
      · split at hs
        · cases hs
        · split at hs
          · cases hs
          · exact tloop_good r st1 st' (tsign_good g hs) (by have := tsign_len hs; omega) h
theorem told_good (a0 : ByteArray) : ∃ (m : Nat) (l : List Int), Good (toldOf a0).1 m l ∧ (toldOf a0).2.1 = (m : Int) ∧ (toldOf a0).1.length ≤ 600 := by
  unfold toldOf
  split
  · exact ⟨0, [], .nil, rfl, by simp⟩
  · split
    · exact ⟨0, [], .nil, rfl, by simp⟩
    · rename_i st hst
      obtain ⟨⟨m, hm, g⟩, hl⟩ := tloop_good _ _ _ ⟨0, rfl, .nil⟩ (by simp) hst
      exact ⟨m, st.live, g, hm, hl⟩
theorem told_f (a0 : ByteArray) (hs : a0.size ≤ 1048576) : impl_told.f a0 = some (toldOf a0) := by unfold impl_told.f; rw [if_pos hs]
end Go.Proofs.YtmhagppajcidcaaDoor.Pr
