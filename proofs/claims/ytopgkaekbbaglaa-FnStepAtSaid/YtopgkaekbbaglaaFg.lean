/- StepsOf, of the program and of the reference; the law. -/
import Derived.Test.YtopgkaekbbaglaaFf
import Derived.Test.YtopgkaekbbaglaaFa
namespace Go.Proofs.Ytopgkaekbbaglaa
open Go.RowKit Pl

/-- where the steps begin -/
def ats (L : List Inf) : List Int := L.map (fun i => (i.at_ : Int))
theorem ats_length (L : List Inf) : (ats L).length = L.length := by simp [ats]
theorem ats_step {L : List Inf} {k : Nat} (hk : k < L.length) : ats (L.take (k + 1)) = ats (L.take k) ++ [(L[k].at_ : Int)] := by
  unfold ats
  rw [List.take_succ_eq_append_getElem hk, List.map_append]
  rfl
def OfPost (p : ByteArray) (w : World) (e : Ending) (w' : World) : Prop :=
  ∃ A c, e = .returned (.tuple #[.slice A (ats (Flat p)).length c, .bool (IParse p).isSome]) ∧ Below w.heap.size w w' ∧ Own w' (fun j => w.heap.size ≤ j) 3 (.slice A (ats (Flat p)).length c) (ints (ats (Flat p)))
/-- so many numbers are listed -/
def AtsRel (L : List Inf) (g0 : Nat) (w2 : World) (a i' : Value) (wr : World) : Prop :=
  ∃ k : Nat, k ≤ L.length ∧ i' = .int .i64 k ∧ Own wr (fun j => j = g0 ∨ w2.heap.size ≤ j) 3 a (ints (ats (L.take k))) ∧ Kp w2 wr (fun j => j = g0)
theorem kp_cell {w w' : World} {S : Nat → Prop} (h : Kp w w' S) {b o : Nat} {u : Value} (hs : ¬ S b) (hc : w.cell? ⟨b, o, none⟩ = some u) : w'.cell? ⟨b, o, none⟩ = some u :=
  (World.cell?_of_block (a := ⟨b, o, none⟩) (h.block b (World.block_lt_of_cell? w _ hc) hs)).trans hc
theorem ats_take_length (L : List Inf) (k : Nat) : (ints (ats (L.take k))).length ≤ L.length := by
  rw [ints_length, ats_length]
  exact List.length_take_le' _ _
theorem ats_on {L : List Inf} {g0 k B : Nat} {w2 wr W w1 : World} {a v1 : Value} (hO : Own wr (fun j => j = g0 ∨ w2.heap.size ≤ j) 3 a (ints (ats (L.take k)))) (hK : Kp w2 wr (fun j => j = g0)) (hk : k < L.length)
    (hb : Below wr.heap.size wr W) (hB : wr.heap.size ≤ B) (h1 : Own w1 (fun j => a.ownBlock = some j ∨ B ≤ j) 3 v1 (ints (ats (L.take k)) ++ [.int .i64 (L[k].at_)])) (hg : W.grownBy w1 a.ownBlock) :
    Own w1 (fun j => j = g0 ∨ w2.heap.size ≤ j) 3 v1 (ints (ats (L.take (k + 1)))) ∧ Kp w2 w1 (fun j => j = g0) := by
  have hs := hK.size
  have hs2 := hb.size
  refine ⟨?_, ?_⟩
  · rw [ats_step hk, ints_append]
    exact h1.mono (fun j hj => by
      rcases hj with hj | hj
      · exact hO.let_ j hj
      · omega)
  · refine (hK.trans (Kp.of_below hb (fun _ => False)) (fun _ _ h => h.elim)).trans (Kp.of_grown hg) (fun j hj h => ?_)
    rcases hO.let_ j h with q | q
    · exact q
    · omega

set_option maxHeartbeats 1600000 in
set_option maxRecDepth 1000000 in
theorem istepsof_any (p : ByteArray) (w : World) (hp : p.size ≤ 1048576) : Calls Try.prog 32 #[.string p] w (OfPost p w) := by
  cases hI : IParse p with
  | none =>
    have hv : (IParse p).isSome = false := by rw [hI]; rfl
    have HF := Lib.hid (flat_none hI)
    have HV := Lib.hid hv
    clear hI hv
    go_enter Try.func32, Try.ntmps32
    go_wp2_with fail
    refine (valid_any p w hp).mono ?_
    rintro e w1 ⟨rfl, hb⟩
    rw [HV.out]
    have HB := Lib.hid hb
    clear hb
    go_wp2_with fail
    go_ret2
    exact ⟨none, 0, by rw [HF.out, HV.out]; rfl, HB.out, by rw [HF.out]; exact Own.nil _ _ _⟩
  | some q =>
    have hv : (IParse p).isSome = true := by rw [hI]; rfl
    have HV := Lib.hid hv
    clear hI hv
    go_enter Try.func32, Try.ntmps32
    go_wp2_with fail
    refine (valid_any p w hp).mono ?_
    rintro e w1 ⟨rfl, hb⟩
    rw [HV.out]
    have HB := Lib.hid hb
    clear hb
    go_wp2_with fail
    have hO0 : Own (w1.alloc (.cells #[] 3)) (fun j => j = w1.heap.size) 3 (.slice (some ⟨w1.heap.size, 0, none⟩) 0 0) [] :=
      ⟨World.ownsRow_made w1 #[] 0 (Nat.zero_le _) (by simp [maxLen]) rfl, fun k hk => by simp [Value.ownBlock] at hk; exact hk.symm⟩
    have hB0 := HB.out.trans ((below_of (World.grownBy_alloc w1 (.cells #[] 3) none)).mono HB.out.size)
    have hs0 : (w1.alloc (.cells #[] 3)).heap.size = w1.heap.size + 1 := by simp
    refine (iall_any p _ hp).mono ?_
    rintro e w2 ⟨v, ps, rfl, hb, hO, hN⟩
    have hO2 := hO0.keep (fun j hj hl => hb.block j hl)
    have hB2 := hB0.trans (hb.mono hB0.size)
    obtain ⟨A, c, rfl⟩ := hO.form
    have hlen := hN.length
    have hle := flat_le p
    have HO := Lib.hid hO
    have HN := Lib.hid hN
    have HB2 := Lib.hid hB2
    have HO2 := Lib.hid hO2
    have HS0 := Lib.hid hs0
    have HW1 := Lib.hid (show w.heap.size ≤ w1.heap.size from HB.out.size)
    rw [hlen]
    rw [hlen] at HO
    have HL := Lib.hid hlen
    clear hO hN hb hlen hO0 hB0 hs0 hB2 hO2
    have HF := Lib.hid (show ats (Flat p) = ats ((Flat p).take (Flat p).length) by rw [List.take_length])
    have HP := Lib.hid (show ∀ e w', (∃ A c, e = Ending.returned (.tuple #[.slice A (ats (Flat p)).length c, .bool (IParse p).isSome]) ∧ Below w.heap.size w w' ∧ Own w' (fun j => w.heap.size ≤ j) 3 (.slice A (ats (Flat p)).length c) (ints (ats (Flat p)))) → OfPost p w e w' from fun _ _ h => h)
    generalize Flat p = L at *
    go_wp2_with fail
    go_loopw [4, 14] (fun a i' wr => AtsRel L w1.heap.size w2 a i' wr) (fun _ i' _ => L.length - (intOf i').toNat)
    case atStart => exact ⟨0, Nat.zero_le _, rfl, HO2.out.mono (fun j hj => .inl hj), Kp.refl _ _⟩
    case round =>
      obtain ⟨k, hk, rfl, hOr, hK⟩ := hrel
      obtain ⟨ao, rfl⟩ : ∃ ao : Value, ao = u4 := ⟨_, rfl⟩
      obtain ⟨Aa, ca, rfl⟩ := hOr.form
      by_cases hlt : k < L.length
      · obtain ⟨g, A', n', c', hps, hgo, hh⟩ := HN.out.at hlt
        obtain ⟨gb, rfl, hc0⟩ := HO.out.at HL.out.symm hlt
        have hgb := HO.out.let_ gb rfl
        have hz := HS0.out
        rw [hps] at hc0
        have hc := kp_cell hK (b := gb) (by omega) hc0
        have hk1 := kp_cell hK (b := g) (o := 1) (u := .int .i64 (L[k]).at_) (by omega) (by simp [World.cell?, hh])
        have HOr := Lib.hid hOr
        have HK := Lib.hid hK
        have hal := ats_take_length L k
        have hbd : ((ints (ats (L.take k))).length + 1) * 8 ≤ 140737488355328 := by omega
        clear hh hps hc0 hOr hK hz hgb hgo
        go_wp2_with (at_builtin; refine wpList_app1 rfl _ _ 32 3 (.int .i64 0) 8 rfl Try.underlying32 info3 rfl (by decide) (.slice Aa (ints (ats (L.take k))).length ca) (ints (ats (L.take k))) (.int .i64 (L[k]).at_) rfl rfl rfl HOr.out hbd ?_)
        intro v1 w3 ho3 hg3
        have HR := Lib.hid (ats_on HOr.out HK.out hlt (Below.refl _ _) (Nat.le_refl _) ho3 hg3)
        clear ho3 hg3
        go_wp2_with fail
        go_roundw
        case rel => exact ⟨k + 1, hlt, by go_num, HR.out.1, HR.out.2⟩
        case measure => simp [intOf]; omega
      · have hkn : k = L.length := by omega
        subst hkn
        have HOr := Lib.hid hOr
        have HK := Lib.hid hK
        clear hOr hK
        rw [HF.out] at HP
        rw [show (ints (ats (L.take L.length))).length = (ats (L.take L.length)).length from ints_length _] at HOr ⊢
        go_wp2_with fail
        go_ret2
        have hz := HS0.out
        have hz2 := HW1.out
        have hz3 := HB2.out.size
        refine HP.out _ _ ⟨Aa, ca, by rw [HV.out]; rfl, ?_, HOr.out.mono (fun j hj => by omega)⟩
        exact HB2.out.trans ⟨HK.out.os, HK.out.tape, HK.out.output, HK.out.size, fun j hj => HK.out.block j (by omega) (by omega)⟩
end Go.Proofs.Ytopgkaekbbaglaa
