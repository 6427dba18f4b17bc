/- The contracts of the program's 'first', 'above' and 'kept': cells that values get. -/
import Derived.Test.YtmhagppajcidcaaDoorTmap
import Derived.Test.YtmhagppajcidcaaDoorTold
import Derived.Maps.RangeWalk
import Derived.Deep.RegionWith
import Derived.RegionTactic
import Derived.Handy
import Derived.Outline
import Derived.Deep.DeepCutAuto
import Derived.Deep.CutBlock
import Derived.Deep.QuietTactic
import Derived.BigQuiet
import Derived.BigCall
import Derived.BigRegion
namespace Go.Proofs.YtmhagppajcidcaaDoor.Pr
open Go.RowKit Go.Maps Go.Proofs.YtmhagppajcidcaaDoorW.PrintWords Go.Proofs.YtmhagppajcidcaaDoorW.PrintLast Go.Proofs.YtmhagppajcidcaaDoorW.PrintMore
attribute [local go_sem] max2_int max_two
set_option linter.unusedVariables false
/-- block B is a map of at most n entries, whose keys are just the numbers of L, each true -/
def KeyMap (w : World) (B n : Nat) (L : List Int) : Prop :=
  ∃ D : DataW Unit, w.ownsMap Tryd.prog 3 (plainElem Tryd.prog 4) B n D ∧ IsMap D ∧ (∀ x : Int, D.atKey (.int .i64 x) (.lit (.bool false)) = .lit (.bool (decide (x ∈ L)))) ∧ ∀ x : Int, has D (.int .i64 x) = decide (x ∈ L)
theorem KeyMap.alive {w : World} {B n : Nat} {L : List Int} (h : KeyMap w B n L) : AliveMap w B n L := by
  obtain ⟨D, h1, h2, h3, _⟩ := h
  exact ⟨D, h1, h2, h3⟩
theorem KeyMap.start (w : World) : KeyMap (w.alloc (.map #[] 0)) w.heap.size 0 [] := ⟨.map [], World.ownsMap_made w _ _ _, isMap_empty, fun x => by simp; rfl, fun x => by simp; rfl⟩
theorem KeyMap.lt {w : World} {B n : Nat} {L : List Int} (h : KeyMap w B n L) : B < w.heap.size := h.alive.lt
theorem KeyMap.kept {w w' : World} {B n : Nat} {L : List Int} (h : KeyMap w B n L) (hb : w'.heap[B]? = w.heap[B]?) : KeyMap w' B n L := by
  obtain ⟨D, ⟨es, clock, h1, h2⟩, h3⟩ := h
  exact ⟨D, ⟨es, clock, by rw [hb]; exact h1, h2⟩, h3⟩
theorem KeyMap.below {w w' : World} {B n : Nat} {L : List Int} (h : KeyMap w B n L) (hb : Below w.heap.size w w') : KeyMap w' B n L := h.kept (hb.block _ h.lt)
section
variable {ops : Array Oper} {rest : List Oper} {o : Oper} {a : Act} {Q : Exit → Act → World → Prop}
set_option maxRecDepth 100000 in
theorem wpList_kborn {W : World} {B n : Nat} {L : List Int} (hg : o.guard = none) (m x v : Operand) (hop : o.op = Op.mapUpdate 48 m x v) (hm : a.eval m = .map (some B)) (h : KeyMap W B n L) (hn : n < 1000000) (key : Int)
    (hx : a.eval x = .int .i64 key) (hv : a.eval v = .bool true) (hkw : (Lit.int .i64 key).wf = true)
    (hK : ∀ W', KeyMap W' B (n + 1) (L ++ [key]) → W.grownBy W' (some B) → wpList Tryd.prog ops Q rest (a.put o.dst undef) W') : wpList Tryd.prog ops Q (o :: rest) a W := by
  obtain ⟨D, h1, h2, h3, h4⟩ := h
  refine wpList_mapUpdate_own W hg m x v 48 hop 3 4 keyed3 Tryd.underlying48 (plainElem Tryd.prog 4) B n D hm h1 (by unfold maxLen; omega) _ _ _ hx hv (int_key hkw) (.lit (.bool true)) [] (plainElem_bool Tryd.underlying4 true) ?_
  intro W' h1' hg'
  refine hK W' ⟨_, h1', h2.put _ _, fun y => ?_, fun y => ?_⟩ hg'
  · by_cases hy : y = key
    · subst hy
      rw [atKey_put_same h2 (by exact trivial)]
      simp
    · rw [atKey_put_other (by intro e; injection e with _ e; exact hy e), h3 y]
      simp [hy]
  · by_cases hy : y = key
    · subst hy
      rw [has_put_same h2 (by exact trivial)]
      simp
    · rw [has_put_other (by intro e; injection e with _ e; exact hy e), h4 y]
      simp [hy]
set_option maxRecDepth 100000 in
theorem wpList_kdead {W : World} {B n : Nat} {L : List Int} (hg : o.guard = none) (m x : Operand) (hop : o.op = Op.call { callee := Callee.builtin Builtin.delete, args := #[m, x], argTypes := #[48, 3] }) (hm : a.eval m = .map (some B)) (h : KeyMap W B n L) (key : Int)
    (hx : a.eval x = .int .i64 key) (hkw : (Lit.int .i64 key).wf = true)
    (hK : ∀ W', KeyMap W' B n (L.filter (fun y => y != key)) → W.grownBy W' (some B) → wpList Tryd.prog ops Q rest (a.put o.dst (.tuple #[])) W') : wpList Tryd.prog ops Q (o :: rest) a W := by
  obtain ⟨D, h1, h2, h3, h4⟩ := h
  refine wpList_delete_own _ hg m x 48 3 hop 4 keyed3 Tryd.underlying48 (plainElem Tryd.prog 4) B n D hm h1 _ _ hx (int_key hkw) ?_
  intro W' h1' hg'
  refine hK W' ⟨_, h1', h2.del _, fun y => ?_, fun y => ?_⟩ hg'.grown
  · by_cases hy : y = key
    · subst hy
      rw [atKey_del_same]
      simp
    · rw [atKey_del_other (by intro e; injection e with _ e; exact hy e), h3 y]
      simp [hy]
  · by_cases hy : y = key
    · subst hy
      rw [has_del_same]
      simp
    · rw [has_del_other (by intro e; injection e with _ e; exact hy e), h4 y]
      simp [hy]
end
theorem wf_of {x : Int} (h1 : -9223372036854775808 ≤ x) (h2 : x ≤ 9223372036854775807) : (Lit.int .i64 x).wf = true := by
  simp only [Lit.wf, Bool.and_eq_true, decide_eq_true_eq]
  exact ⟨h1, h2⟩
/-! the first that is free -/
theorem filt_lt (L : List Int) (i : Int) (h : i ∈ L) : (L.filter (fun y => decide (i + 1 ≤ y))).length < (L.filter (fun y => decide (i ≤ y))).length := by
  have key : ∀ l : List Int, (l.filter (fun y => decide (i + 1 ≤ y))).length ≤ (l.filter (fun y => decide (i ≤ y))).length := by
    intro l
    induction l with
    | nil => simp
    | cons a r ih =>
      by_cases h1 : i + 1 ≤ a
      · rw [List.filter_cons_of_pos (by simpa using h1), List.filter_cons_of_pos (by simp; omega)]
        simpa using ih
      · rw [List.filter_cons_of_neg (by simpa using h1)]
        by_cases h2 : i ≤ a
        · rw [List.filter_cons_of_pos (by simpa using h2)]
          simp; omega
        · rw [List.filter_cons_of_neg (by simpa using h2)]
          exact ih
  induction L with
  | nil => cases h
  | cons a r ih =>
    rcases List.mem_cons.1 h with rfl | h
    · rw [List.filter_cons_of_neg (by simp; omega), List.filter_cons_of_pos (by simp)]
      have := key r
      simp; omega
    · have := ih h
      by_cases h1 : i + 1 ≤ a
      · rw [List.filter_cons_of_pos (by simpa using h1), List.filter_cons_of_pos (by simp; omega)]
        simpa using this
      · rw [List.filter_cons_of_neg (by simpa using h1)]
        by_cases h2 : i ≤ a
        · rw [List.filter_cons_of_pos (by simpa using h2)]
          simp; omega
        · rw [List.filter_cons_of_neg (by simpa using h2)]
          exact this
def fmeas (L : List Int) (i : Int) : Nat := (L.filter (fun y => decide (i ≤ y))).length
def ffree (L : List Int) (i : Nat) : Nat := if (i : Int) ∈ L then ffree L (i + 1) else i
termination_by (L.filter (fun y => decide ((i : Int) ≤ y))).length
decreasing_by
  rename_i h
  exact filt_lt L i h
theorem ffree_in {L : List Int} {i : Nat} (h : (i : Int) ∈ L) : ffree L i = ffree L (i + 1) := by rw [ffree, if_pos h]
theorem ffree_out {L : List Int} {i : Nat} (h : ¬ (i : Int) ∈ L) : ffree L i = i := by rw [ffree, if_neg h]
set_option maxRecDepth 1000000 in
theorem first_any (w : World) (B n : Nat) (L : List Int) (h : KeyMap w B n L) (hb : ∀ y ∈ L, y ≤ 1000000) :
    Calls Tryd.prog 34 #[.map (some B)] w fun e w' => e = .returned (.int .i64 (ffree L 0 : Nat)) ∧ w' = w := by
  have HM := Lib.hid h
  have HBD := Lib.hid hb
  clear h hb
  go_enter Tryd.func34, Tryd.ntmps34
  go_wp2_with fail
  go_loopw [3] (fun v3 wr => ∃ c : Nat, v3 = .int .i64 c ∧ c ≤ 1000001 ∧ ffree L 0 = ffree L c ∧ wr = w) (fun v3 _ => fmeas L (intOf v3))
  case atStart => exact ⟨0, rfl, by omega, rfl, rfl⟩
  case round =>
    obtain ⟨c, rfl, hc, hF, rfl⟩ := hrel
    have HF := Lib.hid hF
    have hcw : (Lit.int .i64 (c : Int)).wf = true := wf_of (by omega) (by omega)
    have hlk := HM.out.alive.look hcw
    clear hF
    by_cases hin : (c : Int) ∈ L
    · have hlk1 : (Instr.lookup 48 (.map (some B)) (.int .i64 c) false).run Tryd.prog wr = .ok (.bool true) wr := by rw [hlk, decide_eq_true hin]
      have HIN := Lib.hid hin
      have hc2 := HBD.out _ hin
      clear hlk hin
      go_wp2_with fail
      go_roundw
      case rel => exact ⟨c + 1, by go_num, by omega, HF.out.trans (ffree_in HIN.out), by first | rfl | trivial⟩
      case measure =>
        have : fmeas L ((c : Int) + 1) < fmeas L (c : Int) := filt_lt L c HIN.out
        simpa [intOf] using this
    · have hlk1 : (Instr.lookup 48 (.map (some B)) (.int .i64 c) false).run Tryd.prog wr = .ok (.bool false) wr := by rw [hlk, decide_eq_false hin]
      have HIN := Lib.hid hin
      clear hlk hin
      go_wp2_with fail
      go_ret
      exact ⟨by rw [HF.out, ffree_out HIN.out]; rfl, rfl⟩
/-! one above all -/
/-- one more than the greatest, or 0 -/
def cntGo : List Int → Int → Int
  | [], a => a
  | x :: r, a => cntGo r (mx a (x + 1))
def cntOf (L : List Int) : Int := cntGo L 0
theorem cntGo_le : ∀ (L : List Int) (a : Int), a ≤ cntGo L a ∧ ∀ x ∈ L, x + 1 ≤ cntGo L a
  | [], a => by simp [cntGo]
  | x :: r, a => by
    have ih := cntGo_le r (mx a (x + 1))
    rw [cntGo]
    have h1 : a ≤ mx a (x + 1) ∧ x + 1 ≤ mx a (x + 1) := by unfold mx; split <;> omega
    refine ⟨by omega, fun y hy => ?_⟩
    rcases List.mem_cons.1 hy with rfl | hy
    · omega
    · exact ih.2 y hy
theorem cntGo_is : ∀ (L : List Int) (a : Int), cntGo L a = a ∨ ∃ x ∈ L, cntGo L a = x + 1
  | [], a => .inl rfl
  | x :: r, a => by
    rw [cntGo]
    rcases cntGo_is r (mx a (x + 1)) with h | ⟨y, hy, h⟩
    · have h1 : mx a (x + 1) = a ∨ mx a (x + 1) = x + 1 := by unfold mx; split <;> simp
      rcases h1 with h1 | h1
      · exact .inl (h.trans h1)
      · exact .inr ⟨x, by simp, h.trans h1⟩
    · exact .inr ⟨y, List.mem_cons_of_mem _ hy, h⟩
theorem cntOf_uniq {L : List Int} {c : Int} (h0 : 0 ≤ c) (hp : ∀ x ∈ L, 0 ≤ x) (h1 : ∀ x ∈ L, x + 1 ≤ c) (h2 : c = 0 ∨ ∃ x ∈ L, c = x + 1) : c = cntOf L := by
  have a := cntGo_le L 0
  have b := cntGo_is L 0
  unfold cntOf
  rcases h2 with rfl | ⟨x, hx, rfl⟩
  · rcases b with b | ⟨y, hy, b⟩
    · exact b.symm
    · have := h1 y hy
      have := hp y hy
      omega
  · have := a.2 x hx
    rcases b with b | ⟨y, hy, b⟩
    · have := hp x hx
      omega
    · have := h1 y hy
      omega
set_option maxRecDepth 100000 in
theorem plain_bool_inv (v : Value) (y : DataW Unit × List MemPlace) (h : plainElem Tryd.prog 4 v = some y) : ∃ c, v = .bool c := by
  unfold plainElem at h
  rw [Tryd.underlying4] at h
  cases v with
  | bool b => exact ⟨b, rfl⟩
  | _ => simp at h
section
variable {ops : Array Oper} {rest : List Oper} {o : Oper} {a : Act} {Q : Exit → Act → World → Prop}
set_option maxRecDepth 100000 in
theorem wpList_next_keys {W : World} {B r n : Nat} {D : DataW Unit} {left : Lit → Bool} {cnt : Nat} (hg : o.guard = none) (it : Operand) (hop : o.op = Op.next it false) (hit : a.eval it = .pointer (some ⟨r, 0, none⟩)) (h : W.ranges Tryd.prog 3 (plainElem Tryd.prog 4) B r n D left cnt)
    (hDone : cnt = 0 → (∀ kl, left kl = false) → wpList Tryd.prog ops Q rest (a.put o.dst (.tuple #[.bool false])) W)
    (hMore : ∀ (x : Int) (v : Value) (w' : World) (cnt' : Nat), left (.int .i64 x) = true → (∃ y, ∀ zd, D.atKey (.int .i64 x) zd = y) → w'.ranges Tryd.prog 3 (plainElem Tryd.prog 4) B r n D (fun z => left z && !z.sameKey (.int .i64 x)) cnt' → cnt' < cnt →
      W.grownBy w' (some r) → w'.heap.size = W.heap.size → (Instr.entry (.pointer (some ⟨r, 0, none⟩))).run Tryd.prog w' = .ok (.tuple #[.int .i64 x, v]) w' → wpList Tryd.prog ops Q rest (a.put o.dst (.tuple #[.bool true, .int .i64 x, v])) w') :
    wpList Tryd.prog ops Q (o :: rest) a W := by
  refine wpList_next_ranges W hg it hop 3 keyed3 (plainElem Tryd.prog 4) (Value.int .i64) Value.bool (fun key kl hk => by obtain ⟨x, rfl, _⟩ := keyOf_int_inv Tryd.underlying3 hk; exact ⟨x, rfl⟩) plain_bool_inv B r n D left cnt hit h hDone ?_
  intro x b kl y w' cnt' hkey hlk _ hat hrg hlt hgr hsz hen
  obtain ⟨x', ex, rfl, _⟩ := keyOf_int_inv Tryd.underlying3 hkey
  cases ex
  exact hMore x (.bool b) w' cnt' hlk ⟨_, hat⟩ hrg hlt hgr hsz hen
end
theorem in_of_at {D : DataW Unit} {L : List Int} {x : Int} {y : DataW Unit} (h1 : D.atKey (.int .i64 x) (.lit (.bool false)) = .lit (.bool (decide (x ∈ L)))) (h2 : has D (.int .i64 x) = decide (x ∈ L)) (h : ∀ zd, D.atKey (.int .i64 x) zd = y) : x ∈ L := by
  by_cases hx : x ∈ L
  · exact hx
  · rw [decide_eq_false hx] at h2
    have e1 := (atKey_of_not_has h2 (.lit (.bool false))).symm.trans (h _)
    have e2 := (atKey_of_not_has h2 (.lit (.bool true))).symm.trans (h _)
    have := e1.trans e2.symm
    simp at this
theorem below_grown {w w' : World} (h : w.grownBy w' none) : Below w.heap.size w w' := ⟨h.os, h.tape, h.output, h.size, fun i hi => h.block i hi (by simp)⟩
set_option maxRecDepth 1000000 in
theorem above_any (w : World) (B n : Nat) (L : List Int) (h : KeyMap w B n L) (hb : ∀ y ∈ L, 0 ≤ y ∧ y ≤ 1000000) :
    Calls Tryd.prog 32 #[.map (some B)] w fun e w' => e = .returned (.int .i64 (cntOf L)) ∧ Below w.heap.size w w' := by
  obtain ⟨D, hown, hmap, hat, hhas⟩ := h
  have HBD := Lib.hid hb
  have HAT := Lib.hid hat
  have HHAS := Lib.hid hhas
  clear hb hat hhas hmap
  go_enter Tryd.func32, Tryd.ntmps32
  go_wp2_with (first | (at_range; refine wpList_range_own _ rfl _ 48 rfl 3 4 keyed3 Tryd.underlying48 (plainElem Tryd.prog 4) B n D rfl hown ?_; intro w0 hrg0 hg0 hs0; have HRG0 := Lib.hid hrg0; have HG0 := Lib.hid hg0; clear hrg0 hg0) | fail)
  go_frame
  go_loopw [3] (fun v3 wr => ∃ (left : Lit → Bool) (cnt : Nat) (c : Int), v3 = .int .i64 c ∧ wr.ranges Tryd.prog 3 (plainElem Tryd.prog 4) B w.heap.size n D left cnt ∧ 0 ≤ c ∧ c ≤ 1000001 ∧ (∀ x ∈ L, left (.int .i64 x) = false → x + 1 ≤ c) ∧ (c = 0 ∨ ∃ x ∈ L, c = x + 1) ∧ w.grownBy wr none) (fun _ wr => wr.rangeLeft B w.heap.size)
  case atStart =>
    refine ⟨_, _, 0, rfl, HRG0.out, Int.le_refl _, by omega, fun x hx hl => ?_, .inl rfl, HG0.out⟩
    rw [HHAS.out x, decide_eq_true hx] at hl
    cases hl
  case round =>
    obtain ⟨left, cnt, c, rfl, hrg, hc0, hc1, hcl, hci, hgw⟩ := hrel
    have HCL := Lib.hid hcl
    have HCI := Lib.hid hci
    have HGW := Lib.hid hgw
    have HRG := Lib.hid hrg
    clear hcl hci hgw hrg HRG0 HG0
    go_wp2_with (first | (at_next; refine wpList_next_keys rfl _ rfl rfl HRG.out ?_ ?_) | fail)
    · intro hcnt hall
      have HALL := Lib.hid hall
      clear hall
      go_wp2_with fail
      go_ret
      refine ⟨?_, ?_⟩
      · rw [← cntOf_uniq hc0 (fun x hx => (HBD.out x hx).1) (fun x hx => HCL.out x hx (HALL.out _)) HCI.out]
        rfl
      · exact below_grown HGW.out
    · intro x v w1 cnt1 hleft y hat2 hrg1 hlt hg1 hs1 hen
      have HIN := Lib.hid (in_of_at (HAT.out x) (HHAS.out x) hat2)
      have HRG1 := Lib.hid hrg1
      have HG1 := Lib.hid hg1
      have hx := HBD.out x HIN.out
      clear hat2 hrg1 hg1 hs1
      go_wp2_with fail
      go_roundw
      case rel =>
        refine ⟨_, cnt1, mx c (x + 1), by go_num, HRG1.out, ?_, ?_, fun z hz hl => ?_, ?_, HGW.out.andThen HG1.out (fun j hj => .inl (by injection hj with hj; omega))⟩
        · unfold mx; split <;> omega
        · unfold mx; split <;> omega
        · by_cases hzx : z = x
          · subst hzx; unfold mx; split <;> omega
          · have hs : (Lit.int .i64 z).sameKey (.int .i64 x) = false := sameKey_ne (by intro e; injection e with _ e; exact hzx e)
            simp only [hs, Bool.not_false, Bool.and_true] at hl
            have := HCL.out z hz hl
            unfold mx; split <;> omega
        · rcases HCI.out with h | ⟨z, hz, h⟩
          · right
            exact ⟨x, HIN.out, by unfold mx; split <;> omega⟩
          · unfold mx
            split
            · exact .inr ⟨x, HIN.out, rfl⟩
            · exact .inr ⟨z, hz, h⟩
      case measure =>
        rw [HRG1.out.left_eq, HRG.out.left_eq]
        exact hlt
/-! kept -/
section
variable {P : Program} {ops : Array Oper} {Q : Exit → Act → World → Prop}
/-- A call of a function that a variable holds. -/
theorem goesV_ {rest : List Oper} {oi : Oper} {a : Act} {w : World} (N : Option Tmp) (hd : oi.dst = N) (hg : oi.guard = none) {f : FuncId} {fn : Func} {m : Operand} {ars : Array Operand} {ts : Array TypeId} (hf : P.funcs[f]? = some fn) (hname : (fn.name == "runtime.NumGoroutine") = false) (hb : fn.body.isSome = true) (args : Array Value)
    (hop : oi.op = .call { callee := .value m, args := ars, argTypes := ts }) (hm : a.eval m = .func (.func f) #[] #[]) (hargs : ars.map a.eval = args)
    (h : Calls P f args w fun e w' => ∃ v, e = .returned v ∧ wpList P ops Q rest (a.put N v) w') : wpList P ops Q (oi :: rest) a w := by
  refine wpList_plain hg fun K hK => ?_
  have he := enters_ hf hname hb args w
  have hrun : (execOp a.eval oi).run P w = .ok (.enter f args) w := by
    unfold execOp
    simp [hop, resolve, hm, Deferred.ofValue, invoke, hargs, he]
  unfold Oper.wp
  rw [hrun, Oper.upon_enter]
  refine h.mono fun e w'' hh => ?_
  obtain ⟨v, rfl, hk⟩ := hh
  subst hd
  exact hK _ _ hk
end
structure Kst where
  xs : List Int
  L : List Int
  many : Int
def kstep (G : List Int → Int) (st : Kst) (e : S50) : Kst :=
  if e.f0.toList = [43] then ⟨st.xs.set (e.f1 - 1).toNat (G st.L), st.L ++ [G st.L], mx st.many (G st.L + 1)⟩
  else if e.f0.toList = [45] then ⟨st.xs, st.L.filter (fun y => y != rd st.xs (e.f1 - 1)), st.many⟩
  else st
def kloop (G : List Int → Int) : List S50 → Kst → Kst
  | [], st => st
  | e :: r, st => kloop G r (kstep G st e)
def keptOf (G : List Int → Int) (a0 : ByteArray) : List Int × Int × Bool :=
  if (toldOf a0).2.2 = true then ((kloop G (toldOf a0).1 ⟨List.replicate (toldOf a0).2.1.toNat 0, [], 0⟩).xs, (kloop G (toldOf a0).1 ⟨List.replicate (toldOf a0).2.1.toNat 0, [], 0⟩).many, true) else ([], -1, false)
/-- a function that says which cell a value gets -/
structure Getter (g : Nat) (G : List Int → Int) : Prop where
  fn : ∃ fn, Tryd.prog.funcs[g]? = some fn ∧ (fn.name == "runtime.NumGoroutine") = false ∧ fn.body.isSome = true
  call : ∀ (w : World) (B n : Nat) (L : List Int), KeyMap w B n L → (∀ y ∈ L, 0 ≤ y ∧ y ≤ 1000000) → Calls Tryd.prog g #[.map (some B)] w fun e w' => e = .returned (.int .i64 (G L)) ∧ Below w.heap.size w w'
  bound : ∀ (L : List Int) (k : Nat), (∀ y ∈ L, 0 ≤ y ∧ y < k) → 0 ≤ G L ∧ G L ≤ k
structure KIn (w0 : World) (B n : Nat) (v : Value) (xs L : List Int) (wr : World) : Prop where
  below : Below w0.heap.size w0 wr
  map : KeyMap wr B n L
  baseB : w0.heap.size ≤ B
  row : Kd.R (Kd.int .i64) 3 wr w0.heap.size (fun _ => True) v xs
section
variable {w0 wr w' : World} {B n : Nat} {v v' : Value} {xs L : List Int}
theorem KIn.on (h : KIn w0 B n v xs L wr) (hb : Below wr.heap.size wr w') : KIn w0 B n v xs L w' :=
  ⟨h.below.trans (hb.mono h.below.size), h.map.below hb, h.baseB, Kd.R_below h.row hb⟩
theorem KIn.ne (h : KIn w0 B n v xs L wr) : some B ≠ v.ownBlock := by
  obtain ⟨es, clock, hm⟩ := h.map.alive.isMapObj
  intro e
  obtain ⟨cells, hc⟩ := Kd.R_typed h.row B e.symm
  rw [hm] at hc
  cases hc
theorem KIn.mapped (h : KIn w0 B n v xs L wr) {L' : List Int} {n' : Nat} (hm : KeyMap w' B n' L') (hg : wr.grownBy w' (some B)) : KIn w0 B n' v xs L' w' :=
  ⟨h.below.trans ⟨hg.os, hg.tape, hg.output, hg.size, fun k hk => hg.block k (Nat.lt_of_lt_of_le hk h.below.size) (fun e => by injection e with e; have := h.baseB; omega)⟩, hm, h.baseB,
   Kd.R_mono (Kd.R_grown (Kd.R_tight rfl h.row) hg (fun k hk e => h.ne (e.symm.trans hk))) (fun _ _ => trivial)⟩
theorem KIn.put {g cap m : Nat} (h : KIn w0 B n (.slice (some ⟨g, 0, none⟩) m cap) xs L wr) (i x : Int) (hg : w0.heap.size ≤ g) : KIn w0 B n (.slice (some ⟨g, 0, none⟩) m cap) (xs.set i.toNat x) L (wr.setCell ⟨g, i.toNat, none⟩ (.int .i64 x)) := by
  have hp := Kd.R_putg h.row i x
  exact ⟨below_set h.below hg, h.map.kept (hp.2.block _ h.map.lt (fun e => h.ne (by injection e with e; rw [e]; rfl))), h.baseB, hp.1⟩
end
/-- .. and the box of the event at hand -/
structure KBox (w0 : World) (B n : Nat) (v : Value) (xs L : List Int) (b : Nat) (e : S50) (wr : World) : Prop extends KIn w0 B n v xs L wr where
  box : wr.heap[b]? = some (.cells #[.string e.f0, .int .i64 e.f1] 50 (0, 0))
section
variable {w0 wr w' : World} {B n b : Nat} {v v' : Value} {xs L : List Int} {e : S50}
theorem KBox.on (h : KBox w0 B n v xs L b e wr) (hb : Below wr.heap.size wr w') : KBox w0 B n v xs L b e w' := ⟨h.toKIn.on hb, (hb.block _ (blk_lt h.box)).trans h.box⟩
theorem KBox.c0 (h : KBox w0 B n v xs L b e wr) : wr.cell? ⟨b, 0, none⟩ = some (.string e.f0) := (blk_cell h.box 0).trans rfl
theorem KBox.c1 (h : KBox w0 B n v xs L b e wr) : wr.cell? ⟨b, 1, none⟩ = some (.int .i64 e.f1) := (blk_cell h.box 1).trans rfl
theorem KBox.mapped (h : KBox w0 B n v xs L b e wr) {L' : List Int} {n' : Nat} (hm : KeyMap w' B n' L') (hg : wr.grownBy w' (some B)) : KBox w0 B n' v xs L' b e w' :=
  ⟨h.toKIn.mapped hm hg, (hg.block _ (blk_lt h.box) (fun he => by
    obtain ⟨es, clock, hm⟩ := h.map.alive.isMapObj
    injection he with he
    have := h.box
    rw [he, hm] at this
    cases this)).trans h.box⟩
theorem KBox.put {g cap m : Nat} (h : KBox w0 B n (.slice (some ⟨g, 0, none⟩) m cap) xs L b e wr) (i x : Int) (hg : w0.heap.size ≤ g) : KBox w0 B n (.slice (some ⟨g, 0, none⟩) m cap) (xs.set i.toNat x) L b e (wr.setCell ⟨g, i.toNat, none⟩ (.int .i64 x)) := by
  have hp := Kd.R_putg h.row i x
  exact ⟨h.toKIn.put i x hg, (hp.2.block _ (blk_lt h.box) (fun he => by
    obtain ⟨cells, hc⟩ := Kd.R_typed h.row g rfl
    injection he with he
    have := h.box
    rw [he, hc] at this
    injection this with this
    injection this with _ this
    cases this)).trans h.box⟩
end
theorem rd_mem (xs : List Int) {i : Int} (h0 : 0 ≤ i) (h1 : i < (xs.length : Int)) : rd xs i ∈ xs := by
  unfold rd
  rw [List.getD_eq_getElem?_getD, List.getElem?_eq_getElem (by omega)]
  exact List.getElem_mem _
def KRel (G : List Int → Int) (w0 : World) (B : Nat) (l : List S50) (m : Nat) (v : Value) (v12 v29 : Value) (wr : World) : Prop :=
  ∃ (k : Nat) (st : Kst) (n : Nat), k ≤ l.length ∧ v29 = .int .i64 k ∧ v12 = .int .i64 st.many ∧ kloop G l ⟨List.replicate m 0, [], 0⟩ = kloop G (l.drop k) st ∧ st.xs.length = m ∧ n ≤ k ∧ 0 ≤ st.many ∧ st.many ≤ k ∧ (∀ y ∈ st.L, 0 ≤ y ∧ y < k) ∧ (∀ y ∈ st.xs, 0 ≤ y ∧ y ≤ k) ∧ KIn w0 B n v st.xs st.L wr
theorem kloop_drop {G : List Int → Int} {l : List S50} {k : Nat} (hk : k < l.length) (st : Kst) : kloop G (l.drop k) st = kloop G (l.drop (k + 1)) (kstep G st l[k]) := by
  rw [List.drop_eq_getElem_cons hk, kloop]
set_option maxHeartbeats 4000000 in
set_option maxRecDepth 1000000 in
theorem kept_any {g : Nat} {G : List Int → Int} (hG : Getter g G) (a0 : ByteArray) (w : World) (hLd : LaidW w) (hs : a0.size ≤ 1048576) (hm0 : 0 ≤ (toldOf a0).2.1) (hm1 : (toldOf a0).2.1 ≤ 1000000) (hl : (toldOf a0).1.length ≤ 600) (hv : ∀ e ∈ (toldOf a0).1, 1 ≤ e.f1 ∧ e.f1 ≤ (toldOf a0).2.1) :
    Calls Tryd.prog 31 #[.string a0, .func (.func g) #[] #[]] w fun e w' => ∃ v0_ : Value, e = .returned (.tuple #[v0_, .int .i64 (keptOf G a0).2.1, .bool (keptOf G a0).2.2]) ∧ Kd.R (Kd.int .i64) 3 w' w.heap.size (fun _ => True) v0_ (keptOf G a0).1 ∧ Below w.heap.size w w' := by
  have hmm := @run_makeMap Tryd.prog
  have HV := Lib.hid hv
  have HG := Lib.hid hG
  clear hv hG
  go_enter Tryd.func31, Tryd.ntmps31
  go_wp2_with fail
  refine (told_any a0 _ hLd hs).mono ?_
  rintro e w1 ⟨v1, rfl, hr1, hb1⟩
  have HK := Lib.hid (show keptOf G a0 = if (toldOf a0).2.2 = true then ((kloop G (toldOf a0).1 ⟨List.replicate (toldOf a0).2.1.toNat 0, [], 0⟩).xs, (kloop G (toldOf a0).1 ⟨List.replicate (toldOf a0).2.1.toNat 0, [], 0⟩).many, true) else ([], -1, false) from rfl)
  generalize (toldOf a0).2.2 = ok at *
  generalize (toldOf a0).2.1 = made at *
  generalize (toldOf a0).1 = l at *
  cases ok with
  | false =>
    go_wp2_with fail
    go_ret3
    exact ⟨_, by rw [HK.out]; rfl, by rw [HK.out]; exact Kd.R_nil _ _ _ _ _, hb1⟩
  | true =>
    obtain ⟨A1, c1, rfl⟩ := Kd.R_slice hr1
    have HC := Lib.hid (Kd.R_reads' hr1).2.2
    have HB1 := Lib.hid hb1
    clear hr1 hb1
    go_wp2_with (first | ((with_reducible refine gate_dst (N := 25) rfl ?_); refine Kd.R_make (Kd.int .i64) (w0 := w1) w1.heap.size 3 rfl (N := 25) rfl 24 _ _ rfl made rfl rfl Tryd.underlying24 (.int .i64 0) 8 info3 rfl (by decide) (by omega) 0 (ok := fun _ => True) (okp := fun _ => True) rfl (fun _ hk => hk) trivial hm0 (by omega) (Below.refl _ _) (Nat.le_refl _) ?_; intro v2 w2 ho2 hb2 hg2 hn2; clear hg2 hn2; have HO := Lib.hid ho2; have HB2 := Lib.hid hb2; clear ho2 hb2) | fail)
    have HI := Lib.hid (show KIn w1 w2.heap.size 0 v2 (List.replicate made.toNat 0) [] (w2.alloc (.map #[] 0)) from
      ⟨HB2.out.alloc HB2.out.size _, KeyMap.start w2, HB2.out.size, Kd.R_below HO.out (below_a _)⟩)
    clear HO HB2
    go_loopw [12, 29] (fun v12 v29 wr => KRel G w1 w2.heap.size l made.toNat v2 v12 v29 wr) (fun _ v29 _ => l.length - (intOf v29).toNat)
    case atStart =>
      exact ⟨0, ⟨List.replicate made.toNat 0, [], 0⟩, 0, Nat.zero_le _, rfl, rfl, rfl, by simp, Nat.le_refl _, Int.le_refl _, Int.le_refl _, (fun y hy => by cases hy), (fun y hy => by have := List.eq_of_mem_replicate hy; subst this; exact ⟨Int.le_refl _, Int.le_refl _⟩), HI.out⟩
    case round =>
      clear HI
      obtain ⟨k, st, n, hk, rfl, rfl, hT, hxl, hnk, hmy0, hmy1, hL, hX, hI⟩ := hrel
      have HT := Lib.hid hT
      have HI := Lib.hid hI
      have HL := Lib.hid hL
      have HX := Lib.hid hX
      clear hT hI hL hX
      by_cases hlt : k < l.length
      · have he := HV.out _ (List.getElem_mem hlt)
        obtain ⟨ad, hA, hx0, hx1⟩ := at_T50 (Kd.C_below HC.out HI.out.below) (k : Int) (by omega) (by omega)
        have HD := Lib.hid (HT.out.trans (kloop_drop hlt st))
        rw [show rd_T50 l (k : Int) = l[k] by unfold rd_T50; simp [hlt]] at hx0 hx1
        simp only [Int.toNat_natCast] at hx0 hx1
        generalize l[k] = e at *
        clear HT
        subst hA
        obtain ⟨gg, cap, hv2, hbg, hgl, cells, hcells⟩ := Kd.R_form HI.out.row (by omega)
        subst hv2
        have HBG := Lib.hid hbg
        have hp : 0 ≤ e.f1 - 1 := by omega
        have hq : e.f1 - 1 < (st.xs.length : Int) := by omega
        have HXL := Lib.hid hxl
        clear hgl hcells hbg hxl
        go_upto_region 8 with fail
        have HI4 := Lib.hid (show KBox w1 w2.heap.size n (.slice (some ⟨gg, 0, none⟩) st.xs.length cap) st.xs st.L wr.heap.size e (wr.alloc (.cells #[.string e.f0, .int .i64 e.f1] 50)) from ⟨HI.out.on (below_a _), heap_alloc_new wr _⟩)
        obtain ⟨W4, hW4⟩ : ∃ W4, W4 = wr.alloc (.cells #[.string e.f0, .int .i64 e.f1] 50) := ⟨_, rfl⟩
        rw [← hW4] at HI4 ⊢
        obtain ⟨bk, hbk⟩ : ∃ bk, bk = wr.heap.size := ⟨_, rfl⟩
        rw [← hbk] at HI4 ⊢
        clear hW4 hx0 hx1 HI hbk
        have hc0 := HI4.out.c0
        have hc1 := HI4.out.c1
        have hto : (e.f1 - 1).toNat = e.f1.toNat - 1 := by omega
        by_cases s43 : e.f0.toList = [43]
        · have b43 : (e.f0.toList == [43]) = true := beq_iff_eq.2 s43
          have HS := Lib.hid (show kstep G st e = ⟨st.xs.set (e.f1 - 1).toNat (G st.L), st.L ++ [G st.L], mx st.many (G st.L + 1)⟩ by unfold kstep; rw [if_pos s43])
          clear s43
          obtain ⟨fn, hf1, hf2, hf3⟩ := HG.out.fn
          have hcb := HG.out.bound st.L k HL.out
          obtain ⟨c, hc⟩ : ∃ c, c = G st.L := ⟨_, rfl⟩
          rw [← hc] at hcb HS
          have HCE := Lib.hid hc
          clear hc
          have hcw := wf_of (x := c) (by omega) (by omega)
          go_wp2_with (first | ((with_reducible refine gate_dst (N := 39) rfl ?_); refine goesV_ (some 39) rfl rfl hf1 hf2 hf3 #[.map (some w2.heap.size)] rfl rfl (by (try simp only [List.map_toArray, List.map_cons, List.map_nil]); first | done | rfl) ?_; refine (HG.out.call W4 w2.heap.size n st.L HI4.out.map (fun y hy => ⟨(HL.out y hy).1, by have := (HL.out y hy).2; omega⟩)).mono ?_; rintro e5 W5 ⟨rfl, hb5⟩; refine ⟨_, rfl, ?_⟩; have HI5 := Lib.hid (HI4.out.on hb5); have h50 := HI5.out.c0; have h51 := HI5.out.c1; obtain ⟨hy0, hf0⟩ := Kd.R_celln 0 HI5.out.row (e.f1 - 1) hp hq; rw [hto] at hy0 hf0; rw [← HCE.out]; clear hb5) | ((with_reducible refine gate_store (t := 3) (p := 45) rfl ?_); refine store_event (t := 3) (p := 45) (v := ?vo) (w1 := (W5.setCell ⟨gg, e.f1.toNat - 1, none⟩ (.int .i64 c))) ?hg ?ho ?hn ?hr ?_; (case ho => rfl); (case hg => rfl); (case hn => rfl); (case hr => first | (go_simp; done) | (go_simp; rfl)); intro W6 hw6; have HI6 := Lib.hid (show KBox w1 w2.heap.size n (.slice (some ⟨gg, 0, none⟩) st.xs.length cap) (st.xs.set (e.f1 - 1).toNat c) st.L bk e W6 from by rw [hw6, ← hto]; exact HI5.out.put (e.f1 - 1) c HBG.out); have h60 := HI6.out.c0; have h61 := HI6.out.c1; clear hw6) | (at_mapUpdate; refine wpList_kborn rfl _ _ _ rfl rfl HI6.out.map (by omega) c rfl rfl hcw ?_; intro W7 hm7 hg7; have HI7 := Lib.hid (HI6.out.mapped hm7 hg7); clear hm7 hg7) | fail)
          go_roundw
          case rel =>
            refine ⟨k + 1, kstep G st e, n + 1, hlt, by go_num, by rw [HS.out]; go_num, HD.out, by rw [HS.out]; simpa using HXL.out, by omega, ?_, ?_, ?_, ?_, by rw [HS.out]; exact HI7.out.toKIn⟩
            · rw [HS.out]; dsimp only; unfold mx; split <;> omega
            · rw [HS.out]; dsimp only; unfold mx; split <;> omega
            · rw [HS.out]
              intro y hy
              rcases List.mem_append.1 hy with hy | hy
              · have := HL.out y hy; omega
              · have := List.mem_singleton.1 hy; omega
            · rw [HS.out]
              intro y hy
              rcases List.mem_or_eq_of_mem_set hy with hy | hy
              · have := HX.out y hy; omega
              · omega
          case measure => simp [intOf]; omega
        · have b43 : (e.f0.toList == [43]) = false := beq_eq_false_iff_ne.2 s43
          by_cases s45 : e.f0.toList = [45]
          · have b45 : (e.f0.toList == [45]) = true := beq_iff_eq.2 s45
            have HS := Lib.hid (show kstep G st e = ⟨st.xs, st.L.filter (fun y => y != rd st.xs (e.f1 - 1)), st.many⟩ by unfold kstep; rw [if_neg s43, if_pos s45])
            clear s43 s45
            obtain ⟨hy0, hf0⟩ := Kd.R_celln 0 HI4.out.row (e.f1 - 1) hp hq
            have hxr := HX.out (rd st.xs (e.f1 - 1)) (rd_mem st.xs hp hq)
            have hrw := wf_of (x := rd st.xs (e.f1 - 1)) (by omega) (by omega)
            replace hy0 : W4.cell? ⟨gg, (e.f1 - 1).toNat, none⟩ = some (.int .i64 (rd st.xs (e.f1 - 1))) := hy0
            rw [hto] at hy0 hf0
            go_wp2_with (first | (at_delete; refine wpList_kdead rfl _ _ rfl rfl HI4.out.map (rd st.xs (e.f1 - 1)) rfl hrw ?_; intro W5 hm5 hg5; have HI5 := Lib.hid (HI4.out.mapped hm5 hg5); clear hm5 hg5) | fail)
            go_roundw
            case rel =>
              refine ⟨k + 1, kstep G st e, n, hlt, by go_num, by rw [HS.out]; try rfl, HD.out, by rw [HS.out]; exact HXL.out, by omega, by rw [HS.out]; exact hmy0, by rw [HS.out]; dsimp only; omega, ?_, ?_, by rw [HS.out]; exact HI5.out.toKIn⟩
              · rw [HS.out]
                intro y hy
                have := HL.out y (List.mem_filter.1 hy).1
                omega
              · rw [HS.out]
                intro y hy
                have := HX.out y hy
                omega
            case measure => simp [intOf]; omega
          · have b45 : (e.f0.toList == [45]) = false := beq_eq_false_iff_ne.2 s45
            have HS := Lib.hid (show kstep G st e = st by unfold kstep; rw [if_neg s43, if_neg s45])
            clear s43 s45
            go_wp2_with fail
            go_roundw
            case rel =>
              refine ⟨k + 1, kstep G st e, n, hlt, by go_num, by rw [HS.out]; try rfl, HD.out, by rw [HS.out]; exact HXL.out, by omega, by rw [HS.out]; exact hmy0, by rw [HS.out]; omega, ?_, ?_, by rw [HS.out]; exact HI4.out.toKIn⟩
              · rw [HS.out]
                intro y hy
                have := HL.out y hy
                omega
              · rw [HS.out]
                intro y hy
                have := HX.out y hy
                omega
            case measure => simp [intOf]; omega
      · have hkn : k = l.length := by omega
        subst hkn
        have HE := Lib.hid (show kloop G l ⟨List.replicate made.toNat 0, [], 0⟩ = st by rw [HT.out, List.drop_length, kloop])
        clear HT
        go_wp2_with fail
        go_ret3
        refine ⟨v2, ?_, ?_, ?_⟩
        · rw [HK.out, HE.out]; rfl
        · rw [HK.out, HE.out]
          exact Kd.R_lower HI.out.row HB1.out.size
        · exact HB1.out.trans (HI.out.below.mono HB1.out.size)
/-! the two functions -/
def Gf (L : List Int) : Int := (ffree L 0 : Nat)
theorem ffree_le {L : List Int} {k : Nat} (hk : ¬ (k : Int) ∈ L) : ∀ (d i : Nat), i + d = k → ffree L i ≤ k
  | 0, i, h => by
    obtain rfl : i = k := by omega
    rw [ffree_out hk]
    exact Nat.le_refl _
  | d + 1, i, h => by
    by_cases hi : (i : Int) ∈ L
    · rw [ffree_in hi]
      exact ffree_le hk d (i + 1) (by omega)
    · rw [ffree_out hi]
      omega
theorem getter_first : Getter 34 Gf where
  fn := ⟨_, Tryd.func34, by kernel_rfl, by kernel_rfl⟩
  call := fun w B n L h hb => (first_any w B n L h (fun y hy => (hb y hy).2)).mono fun e w' ⟨he, hw⟩ => by
    subst hw
    exact ⟨he, Below.refl _ _⟩
  bound := fun L k h => ⟨by unfold Gf; omega, by
    have := ffree_le (L := L) (k := k) (fun hk => by have := h _ hk; omega) k 0 (by omega)
    unfold Gf
    omega⟩
theorem getter_above : Getter 32 cntOf where
  fn := ⟨_, Tryd.func32, by kernel_rfl, by kernel_rfl⟩
  call := above_any
  bound := fun L k h => by
    have a := cntGo_le L 0
    have b := cntGo_is L 0
    unfold cntOf
    refine ⟨a.1, ?_⟩
    rcases b with b | ⟨x, hx, b⟩
    · omega
    · have := h x hx; omega
def impl_kept.f (a0 : ByteArray) : Option (List Int × Int × Bool) :=
  if a0.size ≤ 1048576 ∧ 0 ≤ (toldOf a0).2.1 ∧ (toldOf a0).2.1 ≤ 1000000 ∧ (toldOf a0).1.length ≤ 600 ∧ ∀ e ∈ (toldOf a0).1, 1 ≤ e.f1 ∧ e.f1 ≤ (toldOf a0).2.1 then some (keptOf Gf a0) else none
def impl_above.f (a0 : ByteArray) : Option (List Int × Int × Bool) :=
  if a0.size ≤ 1048576 ∧ 0 ≤ (toldOf a0).2.1 ∧ (toldOf a0).2.1 ≤ 1000000 ∧ (toldOf a0).1.length ≤ 600 ∧ ∀ e ∈ (toldOf a0).1, 1 ≤ e.f1 ∧ e.f1 ≤ (toldOf a0).2.1 then some (keptOf cntOf a0) else none
theorem impl_kept.calls (a0 : ByteArray) (r1 : List Int) (r2 : Int) (r3 : Bool) (w : World) (hLd : LaidW w) (h : impl_kept.f a0 = some (r1, r2, r3)) :
    Calls Tryd.prog 31 #[.string a0, .func (.func 34) #[] #[]] w fun e w' => ∃ v0_ : Value, e = .returned (.tuple #[v0_, .int .i64 r2, .bool r3]) ∧ Kd.R (Kd.int .i64) 3 w' w.heap.size (fun _ => True) v0_ r1 ∧ Below w.heap.size w w' := by
  unfold impl_kept.f at h
  split at h
  · rename_i hh
    injection h with h
    have := kept_any getter_first a0 w hLd hh.1 hh.2.1 hh.2.2.1 hh.2.2.2.1 hh.2.2.2.2
    rw [h] at this
    exact this
  · cases h
theorem impl_above.calls (a0 : ByteArray) (r1 : List Int) (r2 : Int) (r3 : Bool) (w : World) (hLd : LaidW w) (h : impl_above.f a0 = some (r1, r2, r3)) :
    Calls Tryd.prog 31 #[.string a0, .func (.func 32) #[] #[]] w fun e w' => ∃ v0_ : Value, e = .returned (.tuple #[v0_, .int .i64 r2, .bool r3]) ∧ Kd.R (Kd.int .i64) 3 w' w.heap.size (fun _ => True) v0_ r1 ∧ Below w.heap.size w w' := by
  unfold impl_above.f at h
  split at h
  · rename_i hh
    injection h with h
    have := kept_any getter_above a0 w hLd hh.1 hh.2.1 hh.2.2.1 hh.2.2.2.1 hh.2.2.2.2
    rw [h] at this
    exact this
  · cases h
end Go.Proofs.YtmhagppajcidcaaDoor.Pr
