/- The contract of the program's reader of steps in a row. -/
import Derived.Test.YtopgkaekbbaglaaIf
import Derived.Deep.LoopGhost
namespace Go.Proofs.Ytopgkaekbbaglaa
open Go.RowKit Pl

theorem indexByte_q (s : ByteArray) (c : Int) (w : World) :
    Calls Try.prog 76 #[.string s, .int .u8 c] w fun e w' => e = .returned (.int .i64 (Lib.indexByte s.data.toList c.toNat.toUInt8)) ∧ w' = w :=
  (indexByte_any s c w).mono fun _ _ h => ⟨h.1, h.2.symm⟩
theorem isKind_index {p : ByteArray} {m : Nat} (h : m < p.size) : decide ((0 : Int) ≤ Lib.indexByte [43, 61, 46, 45, 126, 94, 33, 63, 42, 123] (p[m]'h)) = isKind p m := by
  rw [indexByte_has, bAt_get h]
  simp [isKind, h, kindsL]

theorem info49 : (Try.prog.info? 49).map (fun i => (i.zero, i.size, i.bytes)) = some (some (.pointer none), 1, 8) := by kernel_rfl
theorem PCells.drewN {w : World} {ok : Nat → Prop} {t : T} {cs : List Value} (h : PCells w ok t cs) (k : Nat) : PCells (w.drewN k) ok t cs := PCells.keep (w := w) (w' := w.drewN k) (ok := ok) (fun _ _ _ => rfl) (t := t) (cs := cs) h
theorem Own.drewN {w : World} {ok : Nat → Prop} {e : TypeId} {v : Value} {xs : List Value} (h : Own w ok e v xs) (k : Nat) : Own (w.drewN k) ok e v xs := Own.keep (w := w) (w' := w.drewN k) h (fun _ _ _ => rfl)
theorem append_assoc1 (i : Inf) (b0 b1 r : T) : ∀ acc : T, acc.append (.cons i b0 b1 r) = (acc.append (.cons i b0 b1 .nil)).append r
  | .nil => rfl
  | .cons j c0 c1 s => by simp only [T.append]; rw [append_assoc1 i b0 b1 r s]
theorem append_nil : ∀ t : T, t.append .nil = t
  | .nil => rfl
  | .cons j c0 c1 s => by simp only [T.append]; rw [append_nil s]
/-- what lies apart from a row lies apart from it when it has grown -/
theorem apart_grown {w1 w2 : World} {ok : Nat → Prop} {e : TypeId} {u v : Value} {ys : List Value} {t : T} {cs : List Value} (h : PCells w1 ok t cs) (hne : ∀ j, ok j → j < w1.heap.size → some j ≠ u.ownBlock) (hg : w1.grownBy w2 u.ownBlock)
    (ho : Own w2 (fun k => u.ownBlock = some k ∨ w1.heap.size ≤ k) e v ys) : PCells w2 (fun j => ok j ∧ some j ≠ v.ownBlock) t cs := by
  refine (h.bound.keep (fun j hj hlt => hg.block j hlt (hne j hj.1 hj.2))).mono (fun j hj => ⟨hj.1, fun hv => ?_⟩)
  rcases ho.let_ j hv.symm with hu | hu
  · exact hne j hj.1 hj.2 hu.symm
  · have := hj.2
    omega
/-- the rounds' relation: so many steps are read, and the rest is to come -/
def StepsRel (p ar : ByteArray) (n sc b : Nat) (w : World) (k : Nat) (v : Value) (wr : World) : Prop :=
  ∃ acc cs m, ISteps p n ar sc = (match ISteps p m ar sc with | none => none | some (t, q) => some (acc.append t, q)) ∧ Rdr wr b p m ∧ m ≤ p.size ∧ n ≤ m ∧ k = p.size - m ∧ cs.length ≤ m ∧
    PCells wr (fun j => w.heap.size ≤ j ∧ some j ≠ v.ownBlock) acc cs ∧ Own wr (fun j => w.heap.size ≤ j) 49 v cs ∧ w.grownBy wr (some b)

set_option maxHeartbeats 400000 in
theorem steps_any (p : ByteArray) (n : Nat) (hp : p.size ≤ 80) (hS : ∀ m, n ≤ m → StepC p m) : StepsC p n := by
  intro w b ar sc hr hn har hsc
  have hlt := hr.lt
  go_enter Try.func71, Try.ntmps71
  go_wp2_with fail
  go_loopg [8] (p.size - n) (fun k v wr => StepsRel p ar n sc b w k v wr)
  case atStart =>
    exact ⟨.nil, [], n, by cases ISteps p n ar sc <;> rfl, hr.grown (World.grownBy_alloc w _ none) (by simp), hn, Nat.le_refl _, rfl, Nat.zero_le _, rfl,
      ⟨World.ownsRow_made w #[] 0 (Nat.zero_le _) (by simp [maxLen]) rfl, fun k hk => by simp [Value.ownBlock] at hk; omega⟩, World.grownBy_alloc w _ _⟩
  case round =>
    obtain ⟨acc, cs, m, he, hrm, hm, hnm, rfl, hl, hc, ho, hg⟩ := hrel
    have HE := Lib.hid he
    have HC := Lib.hid hc
    have HO := Lib.hid ho
    have HG := Lib.hid hg
    clear he hc ho hg
    have h0 := hrm.c0
    have h1 := hrm.c1
    by_cases hk : isKind p m = true
    · have hmlt := isKind_lt hk
      have h2 : decide (m < p.size) = true := by simpa using hmlt
      have h3 := isKind_index hmlt
      rw [hk] at h3
      have HK := Lib.hid hk
      clear hk
      go_wp2_with fail
      go_quiet ((go_at_call 76; exact Calls.quiet_of_same (indexByte_q _ _ _)))
      go_wp2_with fail
      have hIH := hS m hnm (wr.drewN nq) b ar sc (hrm.drewN nq) hmlt (by omega) hsc
      refine hIH.mono ?_
      rintro e w1 ⟨hg1', h⟩
      have hg1 := World.grownBy.trans (grown_drewN wr nq _) hg1'
      clear hg1'
      rcases h with ⟨h1', v1, rfl⟩ | ⟨i, b0, b1, m1, g, h1', hm1, rfl, hr1, hc1⟩
      · have H1 := Lib.hid h1'
        clear h1' h0 h1 h2 h3 hIH
        go_wp2_with fail
        go_ret2
        refine ⟨World.grownBy.trans HG.out hg1, .inl ⟨?_, _, rfl⟩⟩
        rw [HE.out, ISteps_eq, if_pos HK.out, H1.out]
      · have H1 := Lib.hid h1'
        have hbB : b < w.heap.size := hlt
        have hle := HG.out.size
        have hk1 := keep_of (B := w.heap.size) hg1 hbB
        have hacc : PCells w1 (fun j => w.heap.size ≤ j ∧ some j ≠ u8.ownBlock) acc cs := HC.out.keep (fun j hj hlt => hk1 j hj.1 hlt)
        have hout : Own w1 (fun j => w.heap.size ≤ j) 49 u8 cs := HO.out.keep (fun j hj hlt => hk1 j hj hlt)
        have hlow : ∀ k, u8.ownBlock = some k → w.heap.size ≤ k ∧ k < wr.heap.size := fun k hk => HO.out.bound.let_ k hk
        have hbn : some b ≠ u8.ownBlock := fun hk => by have := (hlow b hk.symm).1; omega
        have hnew : PCells w1 (fun j => wr.heap.size ≤ j) (.cons i b0 b1 .nil) [.pointer (some ⟨g, 0, none⟩)] := hc1
        have X1 := Lib.hid hacc
        have X2 := Lib.hid hout
        have X3 := Lib.hid hnew
        have X4 := Lib.hid hg1
        have X5 := Lib.hid hlow
        have X6 := Lib.hid hbn
        have hle1 := hg1.size
        have hcl : (cs.length + 1) * 8 ≤ 140737488355328 := by omega
        clear hacc hout hnew hg1 h1' h0 h1 h2 h3 hIH hc1 hk1 hlow hbn
        go_wp2_with (at_builtin; refine wpList_app1 rfl _ _ 56 49 (.pointer none) 8 rfl Try.underlying56 info49 rfl (by decide) u8 cs (.pointer (some ⟨g, 0, none⟩)) rfl rfl rfl X2.out hcl ?_)
        intro v2 w2 ho2 hg2
        go_wp2_with fail
        have hgt : m < m1 := IStep_gt H1.out
        go_roundg (p.size - m1)
        case measure => omega
        case rel =>
          have hA := apart_grown X1.out (fun j hj _ => hj.2) hg2 ho2
          have hN := apart_grown X3.out (fun j hj _ hk => by have := (X5.out j hk.symm).2; omega) hg2 ho2
          refine ⟨acc.append (.cons i b0 b1 .nil), cs ++ [.pointer (some ⟨g, 0, none⟩)], m1, ?_, hr1.grown hg2 X6.out, hm1, by omega, rfl, by simp; omega,
            PCells.append (hN.mono (fun j hj => ⟨by omega, hj.2⟩)) (hA.mono (fun j hj => ⟨hj.1.1, hj.2⟩)), ho2.mono (fun j hj => ?_), ?_⟩
          · rw [HE.out, ISteps_eq, if_pos HK.out, H1.out]
            simp only []
            cases ISteps p m1 ar sc with
            | none => rfl
            | some q => simp only []; rw [append_assoc1]
          · rcases hj with hj | hj
            · exact (X5.out j hj).1
            · omega
          · exact (World.grownBy.trans HG.out X4.out).andThen hg2 (fun j hj => .inl (X5.out j hj).1)
    · have HK := Lib.hid hk
      by_cases hmlt : m < p.size
      · have h2 : decide (m < p.size) = true := by simpa using hmlt
        have h3 := isKind_index hmlt
        rw [show isKind p m = false by simpa using hk] at h3
        clear hk
        go_wp2_with fail
        go_quiet ((go_at_call 76; exact Calls.quiet_of_same (indexByte_q _ _ _)))
        go_wp2_with fail
        go_ret2
        refine ⟨World.grownBy.trans HG.out (grown_drewN _ _ _), .inr ⟨acc, m, u8, cs, ?_, hm, rfl, hrm.drewN _, (HC.out.mono (fun j hj => hj.1)).drewN _, HO.out.drewN _⟩⟩
        rw [HE.out, ISteps_eq, if_neg HK.out]
        simp only [append_nil]
      · have h2 : decide (m < p.size) = false := by simpa using hmlt
        clear hk
        go_wp2_with fail
        go_quiet ((go_at_call 76; exact Calls.quiet_of_same (indexByte_q _ _ _)))
        go_wp2_with fail
        go_ret2
        refine ⟨World.grownBy.trans HG.out (grown_drewN _ _ _), .inr ⟨acc, m, u8, cs, ?_, hm, rfl, hrm.drewN _, (HC.out.mono (fun j hj => hj.1)).drewN _, HO.out.drewN _⟩⟩
        rw [HE.out, ISteps_eq, if_neg HK.out]
        simp only [append_nil]
end Go.Proofs.Ytopgkaekbbaglaa
