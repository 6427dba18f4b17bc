/- MFnNumbersd: texts of this proof, joined. -/
import Derived.Test.YtojhdfdhfajjjaaDoorCa
import Derived.Test.YtojhdfdhfajjjaaDoorCb
import Derived.Test.YtojhdfdhfajjjaaDoorCc
import Derived.Test.YtojhdfdhfajjjaaDoorCd
import Derived.Test.YtojhdfdhfajjjaaDoorCe
import Derived.Test.YtojhdfdhfajjjaaDoorCf
import Derived.Test.YtojhdfdhfajjjaaDoorCg
import Derived.Test.YtojhdfdhfajjjaaDoorCh
import Derived.Test.YtojhdfdhfajjjaaDoorCi
import Derived.Test.YtojhdfdhfajjjaaDoorCj
import Derived.Test.YtojhdfdhfajjjaaDoorCk
import Derived.Test.YtojhdfdhfajjjaaDoorCl
import Derived.Test.YtojhdfdhfajjjaaDoorMFnNumbersa
import Derived.Test.YtojhdfdhfajjjaaDoorMFnNumbersb
import Derived.Test.YtojhdfdhfajjjaaDoorMFnNumbersc
import Derived.Shelf.Strings.OnBuilder
import Derived.Shelf.LaysM
import Derived.Shelf.Strconv.Itoa3
import Derived.Test.YtojhdfdhfajjjaaDoorProg
import Derived.Below
import Derived.Test.YtojhdfdhfajjjaaDoorRows
import Derived.ProofKit
import Derived.SizedLaws
import Derived.LaidMore
import Derived.Lay
import Derived.Stop.LaidErr
import Derived.Lib.LaidTab
import Derived.Lib.AppendIntMem
import Derived.Laws.StructEq
namespace Go.Proofs
open Go.Shelf
def Tryd.lays156_ren : Go.Shelf.Ren := ⟨fun | 156 => 27 | 165 => 37 | 166 => 38 | 169 => 39 | 240 => 46 | 241 => 47 | 276 => 57 | 277 => 58 | n => n, fun | 31 => 38 | 9 => 9 | 3 => 3 | 4 => 4 | 0 => 0 | 20 => 20 | 72 => 73 | 76 => 77 | 70 => 71 | 37 => 22 | 75 => 76 | 127 => 93 | 164 => 108 | 5 => 5 | 80 => 79 | n => n, fun | n => n⟩
theorem Tryd.lays156 : Go.Proofs.Lays.n156 Tryd.prog Tryd.lays156_ren := {
 mixed := by kernel_rfl
 f156 := Tryd.func27.trans (congrArg some (by kernel_rfl))
 f165 := Tryd.func37.trans (congrArg some (by kernel_rfl))
 f166 := Tryd.func38.trans (congrArg some (by kernel_rfl))
 f169 := Tryd.func39.trans (congrArg some (by kernel_rfl))
 f240 := Tryd.func46.trans (congrArg some (by kernel_rfl))
 f241 := Tryd.func47.trans (congrArg some (by kernel_rfl))
 f276 := Tryd.func57.trans (congrArg some (by kernel_rfl))
 f277 := Tryd.func58.trans (congrArg some (by kernel_rfl))
 t0 := Tryd.underlying0
 a0 := Tryd.isAgg0
 z0 := Tryd.sizeOf0
 v0 := Tryd.zeroValue0
 t3 := Tryd.underlying3
 a3 := Tryd.isAgg3
 z3 := Tryd.sizeOf3
 v3 := Tryd.zeroValue3
 t4 := Tryd.underlying4
 a4 := Tryd.isAgg4
 z4 := Tryd.sizeOf4
 v4 := Tryd.zeroValue4
 t9 := Tryd.underlying9
 a9 := Tryd.isAgg9
 z9 := Tryd.sizeOf9
 v9 := Tryd.zeroValue9
 t20 := Tryd.underlying20
 a20 := Tryd.isAgg20
 z20 := Tryd.sizeOf20
 v20 := Tryd.zeroValue20
 t31 := Tryd.underlying38
 a31 := Tryd.isAgg38
 z31 := Tryd.sizeOf38
 v31 := Tryd.zeroValue38
 t37 := Tryd.underlying22
 a37 := Tryd.isAgg22
 z37 := Tryd.sizeOf22
 v37 := Tryd.zeroValue22
 t70 := Tryd.underlying71
 a70 := Tryd.isAgg71
 z70 := Tryd.sizeOf71
 v70 := Tryd.zeroValue71
 t72 := Tryd.underlying73
 a72 := Tryd.isAgg73
 z72 := Tryd.sizeOf73
 v72 := Tryd.zeroValue73
 t75 := Tryd.underlying76
 a75 := Tryd.isAgg76
 z75 := Tryd.sizeOf76
 v75 := Tryd.zeroValue76
 t76 := Tryd.underlying77
 a76 := Tryd.isAgg77
 z76 := Tryd.sizeOf77
 v76 := Tryd.zeroValue77
 t127 := Tryd.underlying93
 a127 := Tryd.isAgg93
 z127 := Tryd.sizeOf93
 v127 := Tryd.zeroValue93
 t164 := Tryd.underlying108
 a164 := Tryd.isAgg108
 z164 := Tryd.sizeOf108
 v164 := Tryd.zeroValue108 }
theorem Tryd.Builder_Extra_156 : Builder.Extra Tryd.prog Tryd.lays156_ren := {
 sizeBuilder := by kernel_rfl
 liesBuilder := by kernel_rfl
 t5 := Tryd.underlying5
 a5 := Tryd.isAgg5
 z5 := Tryd.sizeOf5
 v5 := Tryd.zeroValue5
 infoByte := by kernel_rfl
 cellsByte := by kernel_rfl
 sizeByte := by kernel_rfl
 neB5 := by decide }
open Go.RowKit in
theorem Tryd.strings_Join_none (a : Option Addr) (c : Nat) (sep : ByteArray) (w : World) :
  Calls Tryd.prog 27 #[.slice a 0 c, .string sep] w fun e w' => e = .returned (.string ⟨#[]⟩) ∧ w' = w := Any.strings_Join_none Tryd.lays156 Tryd.Builder_Extra_156 a c sep w
open Go.RowKit in
theorem Tryd.strings_Join (bk o c : Nat) (xs : List ByteArray) (sep : ByteArray) (w : World) (hcells : ∀ (j : Nat) x, xs[j]? = some x → w.cell? ⟨bk, o + j, none⟩ = some (.string x)) (hbk : bk < w.heap.size) (hN : xs.length ≤ 140737488355328) (hcap : xs.length ≤ c) (hlen : (Lib.join (xs.map (·.data.toList)) sep.data.toList).length ≤ 140737488355328) :
  Calls Tryd.prog 27 #[.slice (some ⟨bk, o, none⟩) xs.length c, .string sep] w fun e w' => e = .returned (.string ⟨(Lib.join (xs.map (·.data.toList)) sep.data.toList).toArray⟩) ∧ Below w.heap.size w w' := Any.strings_Join Tryd.lays156 Tryd.Builder_Extra_156 bk o c xs sep w hcells hbk hN hcap hlen
def Tryd.laysM171_ren : Go.Shelf.Ren := ⟨fun | 171 => 16 | 243 => 26 | 246 => 36 | 283 => 42 | 284 => 43 | 285 => 44 | 286 => 45 | 129 => 53 | 317 => 52 | 318 => 54 | 319 => 55 | 320 => 56 | 337 => 69 | 338 => 70 | n => n, fun | 3 => 3 | 9 => 9 | 2 => 2 | 4 => 4 | 171 => 87 | 0 => 0 | 53 => 88 | 37 => 22 | 5 => 5 | 173 => 91 | 212 => 102 | 51 => 103 | 20 => 20 | 213 => 104 | 46 => 106 | 232 => 123 | 233 => 124 | n => n, fun | 17 => 0 | 18 => 2 | 19 => 3 | n => n⟩
theorem Tryd.laysM171 : Go.Proofs.LaysM.n171 Tryd.prog Tryd.laysM171_ren := {
 mixed := by kernel_rfl
 f129 := Tryd.func53.trans (congrArg some (by kernel_rfl))
 f171 := Tryd.func16.trans (congrArg some (by kernel_rfl))
 f243 := Tryd.func26.trans (congrArg some (by kernel_rfl))
 f246 := Tryd.func36.trans (congrArg some (by kernel_rfl))
 f283 := Tryd.func42.trans (congrArg some (by kernel_rfl))
 f284 := Tryd.func43.trans (congrArg some (by kernel_rfl))
 f285 := Tryd.func44.trans (congrArg some (by kernel_rfl))
 f286 := Tryd.func45.trans (congrArg some (by kernel_rfl))
 f317 := Tryd.func52.trans (congrArg some (by kernel_rfl))
 f318 := Tryd.func54.trans (congrArg some (by kernel_rfl))
 f319 := Tryd.func55.trans (congrArg some (by kernel_rfl))
 f320 := Tryd.func56.trans (congrArg some (by kernel_rfl))
 f337 := Tryd.func69.trans (congrArg some (by kernel_rfl))
 f338 := Tryd.func70.trans (congrArg some (by kernel_rfl))
 t0 := Tryd.underlying0
 a0 := Tryd.isAgg0
 z0 := Tryd.sizeOf0
 v0 := Tryd.zeroValue0
 t2 := Tryd.underlying2
 a2 := Tryd.isAgg2
 z2 := Tryd.sizeOf2
 v2 := Tryd.zeroValue2
 t3 := Tryd.underlying3
 a3 := Tryd.isAgg3
 z3 := Tryd.sizeOf3
 v3 := Tryd.zeroValue3
 t4 := Tryd.underlying4
 a4 := Tryd.isAgg4
 z4 := Tryd.sizeOf4
 v4 := Tryd.zeroValue4
 t5 := Tryd.underlying5
 a5 := Tryd.isAgg5
 z5 := Tryd.sizeOf5
 v5 := Tryd.zeroValue5
 t9 := Tryd.underlying9
 a9 := Tryd.isAgg9
 z9 := Tryd.sizeOf9
 v9 := Tryd.zeroValue9
 t20 := Tryd.underlying20
 a20 := Tryd.isAgg20
 z20 := Tryd.sizeOf20
 v20 := Tryd.zeroValue20
 t37 := Tryd.underlying22
 a37 := Tryd.isAgg22
 z37 := Tryd.sizeOf22
 v37 := Tryd.zeroValue22
 t46 := Tryd.underlying106
 a46 := Tryd.isAgg106
 z46 := Tryd.sizeOf106
 v46 := Tryd.zeroValue106
 t51 := Tryd.underlying103
 a51 := Tryd.isAgg103
 z51 := Tryd.sizeOf103
 v51 := Tryd.zeroValue103
 t53 := Tryd.underlying88
 a53 := Tryd.isAgg88
 z53 := Tryd.sizeOf88
 v53 := Tryd.zeroValue88
 t171 := Tryd.underlying87
 a171 := Tryd.isAgg87
 z171 := Tryd.sizeOf87
 v171 := Tryd.zeroValue87
 t173 := Tryd.underlying91
 a173 := Tryd.isAgg91
 z173 := Tryd.sizeOf91
 v173 := Tryd.zeroValue91
 t212 := Tryd.underlying102
 a212 := Tryd.isAgg102
 z212 := Tryd.sizeOf102
 v212 := Tryd.zeroValue102
 t213 := Tryd.underlying104
 a213 := Tryd.isAgg104
 z213 := Tryd.sizeOf104
 t232 := Tryd.underlying123
 a232 := Tryd.isAgg123
 z232 := Tryd.sizeOf123
 v232 := Tryd.zeroValue123
 t233 := Tryd.underlying124
 a233 := Tryd.isAgg124
 z233 := Tryd.sizeOf124
 v233 := Tryd.zeroValue124
 g17 := by kernel_rfl
 g18 := by kernel_rfl
 g19 := by kernel_rfl
 i0 := by kernel_rfl
 i2 := by kernel_rfl
 i3 := by kernel_rfl
 i4 := by kernel_rfl
 i5 := by kernel_rfl
 i9 := by kernel_rfl
 i20 := by kernel_rfl
 i37 := by kernel_rfl
 i46 := by kernel_rfl
 i51 := by kernel_rfl
 i53 := by kernel_rfl
 i171 := by kernel_rfl
 i173 := by kernel_rfl
 i212 := by kernel_rfl
 i232 := by kernel_rfl
 i233 := by kernel_rfl
 m17 := by kernel_rfl
 m18 := by kernel_rfl
 m19 := by kernel_rfl }
open Go.RowKit Go.Sort Go.Lib in
theorem Tryd.strconv_Itoa (n : Int) (h0 : -9223372036854775808 ≤ n) (h1 : n ≤ 9223372036854775807) (w : World) (htab : Lib.TabIs Tryd.prog w "internal/strconv.uint64pow10" .u64 Lib.pow10Tab) :
  Calls Tryd.prog 16 #[.int .i64 n] w fun e w' => e = .returned (.string ⟨(Lib.itoa n).toArray⟩) ∧ ∃ k os, w' = grow (w.drewN k) os := Any.strconv_Itoa Tryd.laysM171 n h0 h1 w htab
end Go.Proofs
namespace Go.Proofs.YtojhdfdhfajjjaaDoor
open Go.RowKit
structure LaidT (w : World) : Prop where
 tab : Lib.TabIs Tryd.prog w "internal/strconv.uint64pow10" .u64 Lib.pow10Tab
theorem var_below {P : Program} {n : String} {w w' : World} {cs : Array Value} (h : w.var? P n = some cs) (hb : Below w.heap.size w w') : w'.var? P n = some cs := by
 unfold World.var? at h ⊢
 cases hg : P.globalNamed n with
 | none => rw [hg] at h; cases h
 | some g =>
  rw [hg] at h
  simp only [Option.bind_some] at h ⊢
  have hlt : g < w.heap.size := by
   by_cases hlt : g < w.heap.size
   ·exact hlt
   ·rw [Array.getElem?_eq_none (by omega)] at h
    cases h
  rw [hb.block g hlt]
  exact h
theorem LaidT.below {w w' : World} (h : LaidT w) (hb : Below w.heap.size w w') : LaidT w' := ⟨var_below h.tab hb⟩
end Go.Proofs.YtojhdfdhfajjjaaDoor
namespace Go.Proofs.YtojhdfdhfajjjaaDoor
open Go Go.RowKit
variable {H : Type} {enc : TypeId × Value → H}
theorem handed_and_shaped {a : Assume} {C : Checked} {os : Os} {f : FuncId} {fn : Func} {s : ChangeSpec} {conds : List PathCond} {apart fresh handsOn again : Bool} {X : World → Array Value → Prop}
  (hX : ∀ (w w' : World) (args : Array Value), w.heap = w'.heap → X w args → X w' args)
  (own : ownKnob C.prog.godebug = none) (started : os.Started) (noInit : C.prog.inits.idxOf? f = none) (hfn : C.prog.funcs[f]? = some fn)
  (witness : ∃ (w : World) (tape : Tape) (i : Input), w.os = os ∧ (w.forCall tape i).Shaped C.prog ∧ i.vars = [] ∧ Input.okWide C.prog (w.forCall tape i) .any w.heap.size f i ∧
   ((s.pre enc C.prog fn conds apart (w.forCall tape i).memory i.args ∧ X (w.forCall tape i).memory i.args) ∧ sizedMet enc C.prog fn (OpenSpec.ofChange s) apart (w.forCall tape i).memory i.args) ∧ a.holds C.prog (lone (Frame.enter C.prog f i.args .normal) [] (w.forCall tape i)))
  (contract : ∀ (W : World) (base : Nat) (args : Array Value) (ds gs : List (DataW H)) (before : List MemPlace),
   (∀ (j : Nat) t v, fn.params[j]? = some t → args[j]? = some v → Value.okWide C.prog W .any base t v) →
   DataW.Whole enc C.prog fn.params.toList s.vars apart W args.toList ds gs before →
   conds.all (PathCond.test C.prog ⟨fn.params.toList, ds, s.plain.varTypes C.prog, gs⟩) = true →
   (DataW.weightsEach C.prog (fn.params.toList ++ s.plain.varTypes C.prog) (ds ++ gs)).all (· ≤ reachBytes) = true → X W args → W.ShapedOpen C.prog →
   a.holds C.prog (lone (Frame.enter C.prog f args .normal) [] W) →
   Calls C.prog f args W fun e W' => ∃ v, e = .returned v ∧ s.post enc C.prog fn apart fresh handsOn again W args v W') :
  ReturnsInHanded a C os f .any (fun w args => (s.pre enc C.prog fn conds apart w args ∧ X w args) ∧ sizedMet enc C.prog fn (OpenSpec.ofChange s) apart w args) (s.post enc C.prog fn apart fresh handsOn again) := by
 refine returnsInHanded_of_calls own started noInit witness ?_
 intro w tape i _ hsh _ hok hpre hholds
 obtain ⟨_, _, _, fn', hfn', _, _, _, _, hval⟩ := hok
 have e : fn' = fn := Option.some.inj (hfn'.symm.trans hfn)
 subst e
 obtain ⟨⟨⟨ds, gs, before, hw, hc⟩, hx⟩, hz⟩ := hpre
 have hw' := DataW.Whole.of_heap (w' := w.forCall tape i) (by rfl) hw
 refine (contract (w.forCall tape i) w.heap.size i.args ds gs before hval hw' hc (hz.weights hw) (hX _ _ _ (by rfl) hx) hsh hholds).mono fun e W' ⟨v, he, hp⟩ => ?_
 subst he
 exact ChangeSpec.post_blind hp
theorem gTab : Tryd.prog.globalNamed "internal/strconv.uint64pow10" = some 0 := by kernel_rfl
theorem gTabt : (Tryd.prog.globals[0]?).map (·.type) = some 102 := by kernel_rfl
theorem laidT_of {r : List (String × DataW Unit)} {W : World} (h : laidMet Tryd.prog (("internal/strconv.uint64pow10", Rows.laid_internal_strconv_uint64pow10) :: r) W) : LaidT W :=
 ⟨Lib.tabIs_of_head gTab gTabt Tryd.underlying102 Tryd.underlying88 (by kernel_rfl) (by kernel_rfl) h⟩
end Go.Proofs.YtojhdfdhfajjjaaDoor
namespace Go.Proofs.YtojhdfdhfajjjaaDoor.Pr
open Go.RowKit Go.Proofs.YtojhdfdhfajjjaaDoorW.PrintWords Go.Proofs.YtojhdfdhfajjjaaDoorW.PrintLast
def strconv_Itoa.f (a0 : Int) : Option (ByteArray) := if -9223372036854775808 ≤ a0 ∧ a0 ≤ 9223372036854775807 then some ⟨(Lib.itoa a0).toArray⟩ else none
theorem strconv_Itoa.calls (a0 : Int) (r : ByteArray) (w : World) (hLd : LaidT w) (h : strconv_Itoa.f a0 = some r) :
  Calls Tryd.prog 16 #[.int .i64 a0] w fun e w' => e = .returned (.string r) ∧ Below w.heap.size w w' := by
 unfold strconv_Itoa.f at h
 split at h
 ·rename_i hb
  injection h with h
  subst h
  refine (Tryd.strconv_Itoa a0 hb.1 hb.2 w hLd.tab).mono ?_
  rintro e w' ⟨rfl, k, os, rfl⟩
  exact ⟨rfl, Go.Lib.below_grow _ w (Nat.le_refl _) k os⟩
 ·cases h
def NoSpot (A : Option Addr) : Prop := ∀ ad, A = some ad → ad.spot = none
theorem R_spot {α : Type} {d : Kd α} {e base n c : Nat} {ok : Nat → Prop} {w : World} {A : Option Addr} {xs : List α} (h : d.R e w base ok (.slice A n c) xs) : NoSpot A := by
 intro ad ha
 subst ha
 obtain ⟨inner, ho⟩ := Kd.R_own h
 rcases ho.2 with ⟨hv, _⟩ | ⟨g, cap, cur, hv, _⟩
 ·injection hv with h1
  cases h1
 ·injection hv with h1
  injection h1 with h1
  rw [h1]
def strings_Join.f (l0 : List ByteArray) (a1 : ByteArray) : Option (ByteArray) :=
 if l0.length ≤ 140737488355328 ∧ (Lib.join (l0.map (·.data.toList)) a1.data.toList).length ≤ 140737488355328 then some ⟨(Lib.join (l0.map (·.data.toList)) a1.data.toList).toArray⟩ else none
theorem strings_Join.calls (A0 : Option Addr) (c0 : Nat) (l0 : List ByteArray) (a1 : ByteArray) (r : ByteArray) (w : World) (hr0 : Kd.C Kd.string w A0 l0.length l0) (hc0 : l0.length ≤ c0) (hsp : NoSpot A0) (h : strings_Join.f l0 a1 = some r) :
  Calls Tryd.prog 27 #[.slice A0 l0.length c0, .string a1] w fun e w' => e = .returned (.string r) ∧ Below w.heap.size w w' := by
 unfold strings_Join.f at h
 split at h
 ·rename_i hb
  injection h with h
  subst h
  by_cases hn : l0 = []
  ·subst hn
   refine (Tryd.strings_Join_none A0 c0 a1 w).mono ?_
   rintro e w' ⟨rfl, rfl⟩
   exact ⟨rfl, Below.refl _ _⟩
  ·have hpos : 0 < l0.length := List.length_pos_iff.2 hn
   obtain ⟨ad, hA, hc⟩ := Kd.at_string hr0 0 (by omega) (by omega)
   subst hA
   have hs := hsp ad rfl
   obtain ⟨bk, o, sp⟩ := ad
   have hs' : sp = none := hs
   subst hs'
   refine (Tryd.strings_Join bk o c0 l0 a1 w ?_ ?_ hb.1 hc0 hb.2).mono ?_
   ·intro j x hx
    have hj : j < l0.length := (List.getElem?_eq_some_iff.1 hx).1
    obtain ⟨ad, hA, hc⟩ := Kd.at_string hr0 (j : Int) (by omega) (by omega)
    injection hA with hA
    subst hA
    have e1 : (⟨bk, o, none⟩ : Addr).add j = ⟨bk, o + j, none⟩ := by
     unfold Addr.add
     split
     ·rename_i h0; subst h0; rfl
     ·rfl
    rw [Int.toNat_natCast, e1] at hc
    rw [hc]
    congr 2
    unfold rdOf
    rw [Int.toNat_natCast, List.getD_eq_getElem?_getD, hx]
    rfl
   ·have := World.block_lt_of_cell? w _ hc
    simpa [Addr.add] using this
   ·rintro e w' ⟨rfl, hb'⟩
    exact ⟨rfl, hb'⟩
 ·cases h
end Go.Proofs.YtojhdfdhfajjjaaDoor.Pr
namespace Go.Proofs.YtojhdfdhfajjjaaDoor.Pr
open Go.RowKit Go.Proofs.YtojhdfdhfajjjaaDoorW.PrintWords Go.Proofs.YtojhdfdhfajjjaaDoorW.PrintLast Go.Proofs.YtojhdfdhfajjjaaDoorW.PrintMore
attribute [local go_sem] max2_int min2_int max_two min_two max_three min_three max_four min_four   -- for this text's walks alone
set_option linter.unusedVariables false
set_option linter.unusedSimpArgs false
def impl_spaced.f (l0 : List ByteArray) : Option (ByteArray) := if (l0.length : Int) = 0 then (some (⟨#[45]⟩ : ByteArray)) else ((strings_Join.f l0 (⟨#[32]⟩ : ByteArray)).bind fun t117 => (some t117))
set_option maxHeartbeats 8000000 in
set_option maxRecDepth 100000 in
theorem impl_spaced.calls (A0 : Option Addr) (c0 : Nat) (l0 : List ByteArray) (r : ByteArray) (w : World) (hr0 : Kd.C Kd.string w A0 l0.length l0) (hc0 : l0.length ≤ c0) (hsp : NoSpot A0) (h : impl_spaced.f l0 = some r) :
  Calls Tryd.prog 17 #[.slice A0 l0.length c0] w fun e w' => e = .returned (.string r) ∧ Below w.heap.size w w' := by
 have HR0 := Az.mk hr0
 have HC0 := Az.mk hc0
 clear hr0 hc0
 have HB := Az.mk (Below.refl w.heap.size w)
 have H : (if (l0.length : Int) = 0 then (some (⟨#[45]⟩ : ByteArray)) else ((strings_Join.f l0 (⟨#[32]⟩ : ByteArray)).bind fun t117 => (some t117))) = some r := h
 clear h
 by_cases c2 : (l0.length : Int) = 0
 ·rw [if_pos c2] at H
  have c2b0 : ((l0.length : Int) == 0) = true := beq_iff_eq.mpr c2
  have c2b1 : ((l0.length : Int) != 0) = false := bne_eq_false_iff_eq.mpr c2
  clear c2
  obtain rfl := Option.some.inj H
  go_enter Tryd.func17, Tryd.ntmps17
  go_wp2
  go_ret
  exact ⟨by first | rfl | (simp [errW_none, errW_some] <;> rfl) | (simp [*, errW_none, errW_some] <;> rfl), by repeat (first | (with_reducible first|exact HB.out|apply bA|apply bN|apply bD) | exact HB.out)⟩
 ·rw [if_neg c2] at H
  have c2b0 : ((l0.length : Int) == 0) = false := beq_eq_false_iff_ne.mpr c2
  have c2b1 : ((l0.length : Int) != 0) = true := bne_iff_ne.mpr c2
  have c2b2 : ¬ (l0 = []) := fun h_ => c2 (by rw [h_]; rfl)
  replace H := Option.bind_eq_some_iff.mp H
  obtain ⟨t117, A30, H⟩ := H
  replace H : (some t117) = some r := H
  have A3 := Az.mk A30
  clear A30
  obtain rfl := Option.some.inj H
  go_enter Tryd.func17, Tryd.ntmps17
  go_wp2_with (first | ((with_reducible refine gate_callee (f := 27) rfl ?_); refine goesL_ (some 7) rfl rfl Tryd.func27 (by kernel_rfl) rfl #[.slice A0 l0.length c0, .string (⟨#[32]⟩ : ByteArray)] rfl (by (try simp only [List.map_toArray, List.map_cons, List.map_nil]); first | done | rfl | (simp only [List.length_drop, List.length_take]; rfl)) ?_; (with_reducible refine (strings_Join.calls _ _ l0 (⟨#[32]⟩ : ByteArray) t117 _ ?side1 ?side2 hsp A3.out).mono ?_); (case side1 => repeat (first | exact HR0.out | (with_reducible refine Kd.C_alloc ?_ _) | (with_reducible refine Kd.C_drewN ?_ _) | (with_reducible refine Kd.C_drew ?_))); (case side2 => exact HC0.out); rintro e w4 ⟨rfl, hb⟩; refine ⟨_, rfl, ?_⟩; have n0_ := Az.mk (bS (by repeat first|exact HB.out|apply bA|apply bN|apply bD) hb); clear HB; have HB := n0_; clear n0_; (try clear hb); (try clear hb2); (try clear hk); (try clear hi)))
  go_ret
  exact ⟨by first | rfl | (simp [errW_none, errW_some] <;> rfl) | (simp [*, errW_none, errW_some] <;> rfl), by repeat (first | (with_reducible first|exact HB.out|apply bA|apply bN|apply bD) | exact HB.out)⟩
end Go.Proofs.YtojhdfdhfajjjaaDoor.Pr
namespace Go.Proofs.YtojhdfdhfajjjaaDoor.Pr
open Go.RowKit Go.Proofs.YtojhdfdhfajjjaaDoorW.PrintWords Go.Proofs.YtojhdfdhfajjjaaDoorW.PrintLast Go.Proofs.YtojhdfdhfajjjaaDoorW.PrintMore
def bs (l : List UInt8) : ByteArray := ⟨l.toArray⟩
theorem bs_size (l : List UInt8) : (bs l).size = l.length := by unfold bs ByteArray.size; simp
theorem bs_append (x y : List UInt8) : bs x ++ bs y = bs (x ++ y) := Go.ByteArray.mk_append_mk x y
theorem bs_list (l : List UInt8) : (bs l).data.toList = l := by unfold bs; simp
theorem bs_toList (l : List UInt8) : (bs l).toList = l := by rw [Lib.toList_data, bs_list]
theorem digit_str (u : Nat) (h : u < 10) : strOfNums [(wrap64 (48 + (u : Int))) % 256] = bs [UInt8.ofNat (48 + u)] := by
 have e : (wrap64 (48 + (u : Int)) % 256).toNat = 48 + u := by rw [wrap_small (by omega) (by omega)]; omega
 unfold strOfNums
 simp only [List.map_cons, List.map_nil, e]
 rfl
theorem dec_l0 : ∀ (c u : Nat) (x : List UInt8), u < 10 ^ (c + 1) → x.length + c ≤ 100 → u ≤ 9223372036854775807 → Ev (fun k => spec_l13Dec.l0 k (u : Int) (bs x)) (bs (Lib.decDigits u ++ x)) := by
 intro c
 induction c with
 | zero =>
  intro u x hu hx h1
  refine Ev.step (fun k => spec_l13Dec.l0.eq_2 (k := k) ..) ?_
  simp only [if_neg (show ¬ ((u : Int) > 9) by omega), Option.bind_some]
  rw [digit_str u (by omega), Lib.decDigits, dif_pos (by omega)]
  simp only [bs_size, List.length_singleton, if_pos (show 1 + x.length ≤ 9223372036854775807 by omega), bs_append]
  exact Ev.now _
 | succ c ih =>
  intro u x hu hx h1
  by_cases h9 : u < 10
  ·refine Ev.step (fun k => spec_l13Dec.l0.eq_2 (k := k) ..) ?_
   simp only [if_neg (show ¬ ((u : Int) > 9) by omega), Option.bind_some]
   rw [digit_str u (by omega), Lib.decDigits, dif_pos (by omega)]
   simp only [bs_size, List.length_singleton, if_pos (show 1 + x.length ≤ 9223372036854775807 by omega), bs_append]
   exact Ev.now _
  ·refine Ev.step (fun k => spec_l13Dec.l0.eq_2 (k := k) ..) ?_
   have e1 : Int.tmod (u : Int) 10 = ((u % 10 : Nat) : Int) := by rw [Int.ofNat_tmod]; rfl
   have e2 : Int.tdiv (u : Int) 10 = ((u / 10 : Nat) : Int) := by rw [Int.ofNat_tdiv]; rfl
   simp only [if_pos (show ((u : Int) > 9) by omega), Option.bind_some, e1, e2]
   rw [digit_str (u % 10) (by omega), wrap_small (by omega) (by omega), Lib.decDigits, dif_neg h9]
   simp only [bs_size, List.length_singleton, if_pos (show 1 + x.length ≤ 9223372036854775807 by omega), bs_append]
   have := ih (u / 10) (UInt8.ofNat (48 + u % 10) :: x) (by rw [Nat.pow_succ] at hu; omega) (by simp; omega) (by omega)
   rw [List.append_assoc]
   exact this
theorem dec_pos (u : Nat) (h : u ≤ 9223372036854775807) : Ev (fun k => spec_l13Dec.f k (u : Int)) (bs (Lib.decDigits u)) := by
 have := dec_l0 19 u [] (by omega) (by simp) h
 rw [List.append_nil] at this
 refine Ev.step (fun k => spec_l13Dec.f.eq_2 (k := k) ..) ?_
 simp only [if_neg (show ¬ ((u : Int) < -9223372036854775807) by omega), if_neg (show ¬ ((u : Int) < 0) by omega)]
 exact this
theorem decDigits_len (u : Nat) (h : u ≤ 9223372036854775808) : (Lib.decDigits u).length ≤ 20 := by
 have gen : ∀ (c u : Nat), u < 10 ^ (c + 1) → (Lib.decDigits u).length ≤ c + 1 := by
  intro c
  induction c with
  | zero => intro u hu; rw [Lib.decDigits, dif_pos (by omega)]; simp
  | succ c ih =>
   intro u hu
   rw [Lib.decDigits]
   split
   ·simp
   ·have := ih (u / 10) (by rw [Nat.pow_succ] at hu; omega)
    simp
    omega
 exact gen 19 u (by omega)
theorem itoa_len (n : Int) (h1 : -9223372036854775808 ≤ n) (h2 : n ≤ 9223372036854775807) : (Lib.itoa n).length ≤ 21 := by
 unfold Lib.itoa
 split
 ·have := decDigits_len n.natAbs (by omega)
  simp
  omega
 ·have := decDigits_len n.toNat (by omega)
  omega
theorem decDigits_ne (u : Nat) : Lib.decDigits u ≠ [] := by
 rw [Lib.decDigits]
 split <;> simp
theorem itoa_some (n : Int) : Lib.itoa n ≠ [] := by
 unfold Lib.itoa
 split
 ·simp
 ·exact decDigits_ne _
theorem dec_least : Lib.decDigits 9223372036854775808 = [57, 50, 50, 51, 51, 55, 50, 48, 51, 54, 56, 53, 52, 55, 55, 53, 56, 48, 56] := by
 simp [Lib.decDigits]
theorem dec_ev (n : Int) (h1 : -9223372036854775808 ≤ n) (h2 : n ≤ 9223372036854775807) : Ev (fun k => spec_l13Dec.f k n) (bs (Lib.itoa n)) := by
 by_cases hn : n < 0
 ·have hi : Lib.itoa n = 45 :: Lib.decDigits n.natAbs := by unfold Lib.itoa; rw [if_pos hn]
  by_cases hm : n < -9223372036854775807
  ·obtain rfl : n = -9223372036854775808 := by omega
   refine Ev.step (fun k => spec_l13Dec.f.eq_2 (k := k) ..) ?_
   simp only [if_pos hm]
   rw [hi, show (-9223372036854775808 : Int).natAbs = 9223372036854775808 from rfl, dec_least]
   exact Ev.now _
  ·have hp := dec_pos n.natAbs (by omega)
   have hl := decDigits_len n.natAbs (by omega)
   refine Ev.step (fun k => spec_l13Dec.f.eq_2 (k := k) ..) ?_
   simp only [if_neg hm, if_pos hn]
   rw [wrap_small (by omega) (by omega), show -n = ((n.natAbs : Nat) : Int) by omega]
   refine Ev.bind hp ?_
   simp only [bs_size, if_pos (show 1 + (Lib.decDigits n.natAbs).length ≤ 9223372036854775807 by omega)]
   rw [hi, show (⟨#[45]⟩ : ByteArray) = bs [45] from rfl, bs_append]
   exact Ev.now _
 ·have hp := dec_pos n.toNat (by omega)
  have hi : Lib.itoa n = Lib.decDigits n.toNat := by unfold Lib.itoa; rw [if_neg hn]
  rw [hi]
  rw [show ((n.toNat : Nat) : Int) = n by omega] at hp
  exact hp
def jn (ps : List (List UInt8)) : List UInt8 := Lib.join ps [32]
theorem jn_snoc {ps : List (List UInt8)} (h : ps ≠ []) (y : List UInt8) : jn (ps ++ [y]) = jn ps ++ [32] ++ y := by
 cases ps with
 | nil => exact absurd rfl h
 | cons p r =>
  unfold jn
  rw [List.cons_append, Lib.join_cons, Lib.join_cons]
  simp [Lib.joinTail]
theorem jn_one (y : List UInt8) : jn [y] = y := Lib.join_one y [32]
theorem lens_le {B : Nat} : ∀ (ps : List (List UInt8)), (∀ p ∈ ps, p.length ≤ B) → Lib.lens ps ≤ B * ps.length
 | [], _ => by simp [Lib.lens]
 | p :: r, h => by
  have h1 := lens_le r (fun q hq => h q (List.mem_cons_of_mem _ hq))
  have h2 := h p (by simp)
  simp only [Lib.lens, List.map_cons, List.sum_cons, List.length_cons, Nat.mul_add] at h1 ⊢
  omega
theorem jn_len {B : Nat} (ps : List (List UInt8)) (h : ∀ p ∈ ps, p.length ≤ B) : (jn ps).length ≤ (B + 1) * ps.length := by
 cases ps with
 | nil => simp [jn, Lib.join_nil]
 | cons p r =>
  have := lens_le (p :: r) h
  unfold jn
  rw [Lib.join_length, Nat.add_mul]
  simp only [List.length_cons, List.length_nil] at this ⊢
  omega
theorem jn_ne : ∀ (ps : List (List UInt8)), ps ≠ [] → (∀ p ∈ ps, p ≠ []) → jn ps ≠ [] := by
 intro ps hp h
 cases ps with
 | nil => exact absurd rfl hp
 | cons p r =>
  unfold jn
  rw [Lib.join_cons]
  have := h p (by simp)
  simp [this]
def txt (ps : List (List UInt8)) : ByteArray := if ps = [] then ⟨#[45]⟩ else bs (jn ps)
theorem spaced_txt {B : Nat} (ps : List (List UInt8)) (h : ∀ p ∈ ps, p.length ≤ B) (hB : B ≤ 1000) (hl : ps.length ≤ 2000000) : impl_spaced.f (ps.map bs) = some (txt ps) := by
 unfold impl_spaced.f txt
 cases ps with
 | nil => rfl
 | cons p r =>
  have e : ((p :: r).map bs).map (·.data.toList) = p :: r := by
   rw [List.map_map]
   have : ((fun x : ByteArray => x.data.toList) ∘ bs) = id := by funext x; exact bs_list x
   rw [this, List.map_id]
  have hj := jn_len (B := B) (p :: r) h
  have hj2 : (B + 1) * (p :: r).length ≤ 1001 * 2000000 := Nat.mul_le_mul (by omega) hl
  rw [if_neg (by simp; omega), if_neg (by simp)]
  unfold strings_Join.f
  rw [e, show (⟨#[32]⟩ : ByteArray).data.toList = [32] from rfl, if_pos ⟨by simp at hl ⊢; omega, by show (jn (p :: r)).length ≤ _; omega⟩]
  rfl
theorem itoa_f (n : Int) (h1 : -9223372036854775808 ≤ n) (h2 : n ≤ 9223372036854775807) : strconv_Itoa.f n = some (bs (Lib.itoa n)) := by
 unfold strconv_Itoa.f
 rw [if_pos ⟨h1, h2⟩]
 rfl
def Num (n : Int) : Prop := -9223372036854775808 ≤ n ∧ n ≤ 9223372036854775807
theorem jn_take {ps : List (List UInt8)} {i : Nat} (h : i < ps.length) : jn (ps.take (i + 1)) = if i = 0 then ps[i] else jn (ps.take i) ++ [32] ++ ps[i] := by
 rw [List.take_succ_eq_append_getElem h]
 split
 ·rename_i hi
  subst hi
  rw [List.take_zero, List.nil_append, jn_one]
 ·rename_i hi
  exact jn_snoc (fun e => by have := congrArg List.length e; rw [List.length_take] at this; simp only [List.length_nil] at this; omega) _
end Go.Proofs.YtojhdfdhfajjjaaDoor.Pr
namespace Go.Proofs.YtojhdfdhfajjjaaDoor.Pr
open Go.RowKit Go.Proofs.YtojhdfdhfajjjaaDoorW.PrintWords Go.Proofs.YtojhdfdhfajjjaaDoorW.PrintLast Go.Proofs.YtojhdfdhfajjjaaDoorW.PrintMore
attribute [local go_sem] max2_int min2_int max_two min_two max_three min_three max_four min_four   -- for this text's walks alone
set_option linter.unusedVariables false
set_option linter.unusedSimpArgs false
def impl_FormatNumbers.l0 : Nat → List ByteArray → List Int → Int → Int → Option (ByteArray)
 | 0, _, _, _, _ => none
 | k + 1, x3, x7, x8, x9 => if x9 < x8 then (if 0 ≤ x9 then (if x9 < (x7.length : Int) then ((strconv_Itoa.f (rd x7 x9)).bind fun t122 => (if x3.length < 8796093022208 then (impl_FormatNumbers.l0 k (x3 ++ [t122]) x7 x8 (wrap64 (x9 + 1))) else (none))) else (none)) else (none)) else ((impl_spaced.f x3).bind fun t126 => (some t126))
def impl_FormatNumbers.f (k : Nat) (l0 : List Int) : Option (ByteArray) := impl_FormatNumbers.l0 k (([] : List ByteArray)) l0 (l0.length : Int) 0
set_option maxHeartbeats 8000000 in
set_option maxRecDepth 100000 in
theorem impl_FormatNumbers.calls (k : Nat) (A0 : Option Addr) (c0 : Nat) (l0 : List Int) (r : ByteArray) (w : World) (hr0 : Kd.C (Kd.int .i64) w A0 l0.length l0) (hc0 : l0.length ≤ c0) (hLd : LaidT w) (h : impl_FormatNumbers.f k l0 = some r) :
  Calls Tryd.prog 6 #[.slice A0 l0.length c0] w fun e w' => e = .returned (.string r) ∧ Below w.heap.size w w' := by
 have HR0 := Az.mk hr0
 have HC0 := Az.mk hc0
 clear hr0 hc0
 have HB := Az.mk (Below.refl w.heap.size w)
 have HLd := Az.mk hLd
 clear hLd
 have H : (impl_FormatNumbers.l0 k (([] : List ByteArray)) l0 (l0.length : Int) 0) = some r := h
 clear h
 obtain ⟨y118, hy118⟩ : ∃ y_ : List ByteArray, y_ = (([] : List ByteArray)) := ⟨_, rfl⟩
 replace H : (impl_FormatNumbers.l0 k y118 l0 (l0.length : Int) 0) = some r := by first | (rw [hy118]; with_reducible exact H) | (have H2_ := (Option.bind_some _ _).symm.trans H; rw [hy118]; with_reducible exact H2_) | (have H2_ := (Option.bind_some _ _).symm.trans H; with_reducible exact H2_) | with_reducible exact H | (rw [hy118]; exact H) | exact H
 have Ny118 := Az.mk hy118
 clear hy118
 have H' := Az.mk H
 clear H
 go_enter Tryd.func6, Tryd.ntmps6
 go_wp2_with (first | ((with_reducible refine gate_dst (N := 6) rfl ?_); refine Kd.R_lit Kd.string _ 9 ?hg (N := 6) ?hd (xs := ([] : List ByteArray)) (inner := []) (ok := fun _ => True) (okp := fun _ => True) ?hr ?hp (fun _ hk => hk) trivial (Below.refl _ _) (Nat.le_refl _) (by simp) ?_; (case hd => rfl); (case hg => rfl); (case hr => first | (go_simp; done) | (go_simp; rfl)); (case hp => exact (Reps.none _ _)); intro v119 w2 ho3 hb hg_ hnew_; clear hg_ hnew_; (first | rw [← Ny118.out] at ho3 | (simp only [Int.reduceToNat] at ho3; rw [← Ny118.out] at ho3)); have n0_ := Az.mk (Kd.R_lower ho3 (bZ (by repeat first|exact HB.out|apply bA|apply bN|apply bD))); have n1_ := Az.mk (bS (by repeat first|exact HB.out|apply bA|apply bN|apply bD) hb); clear HB; have HO120 := n0_; have HB := n1_; clear n0_ n1_; clear hb ho3))
 go_loopg [3, 9] k (fun kq v3 v9 w' => ∃ (x3_1 : List ByteArray) (x9_1 : Int), v9 = .int .i64 x9_1 ∧ Az (impl_FormatNumbers.l0 kq x3_1 l0 (l0.length : Int) x9_1 = some r) ∧ Az (kq ≤ k) ∧ Az (Kd.R Kd.string 9 w' w.heap.size (fun _ => True) v3 x3_1) ∧ Az (Below w.heap.size w w'))
 case atStart => exact ⟨(y118), (0), (by first | rfl | (simp; done) | (simp [*]; done)), H', ⟨Nat.le_refl _⟩, ⟨by (with_reducible repeat first|apply Kd.Ra|apply Kd.Rn|apply Kd.Rw); exact HO120.out⟩, ⟨by repeat (first | (with_reducible first|exact HB.out|apply bA|apply bN|apply bD) | exact HB.out)⟩⟩
 case round =>
  clear H'
  try clear p2
  obtain ⟨x3_1, x9_1, rfl, HA, HK1, HO_3, HB⟩ := hrel
  cases gk with
  | zero => exact absurd HA.out (by simp [impl_FormatNumbers.l0])
  | succ k1 =>
   have H := HA.out
   clear HA
   simp only [impl_FormatNumbers.l0] at H
   by_cases c4 : x9_1 < (l0.length : Int)
   ·rw [if_pos c4] at H
    have c4b0 : decide (x9_1 < (l0.length : Int)) = true := decide_eq_true c4
    clear c4
    by_cases c5 : 0 ≤ x9_1
    ·rw [if_pos c5] at H
     have c5b0 : decide (0 ≤ x9_1) = true := decide_eq_true c5
     clear c5
     by_cases c6 : x9_1 < (l0.length : Int)
     ·rw [if_pos c6] at H
      have c6b0 : decide (x9_1 < (l0.length : Int)) = true := decide_eq_true c6
      clear c6
      replace H := Option.bind_eq_some_iff.mp H
      obtain ⟨t122, A70, H⟩ := H
      replace H : (if x3_1.length < 8796093022208 then (impl_FormatNumbers.l0 k1 (x3_1 ++ [t122]) l0 (l0.length : Int) (wrap64 (x9_1 + 1))) else (none)) = some r := H
      have A7 := Az.mk A70
      clear A70
      by_cases c8 : x3_1.length < 8796093022208
      ·rw [if_pos c8] at H
       have LMc8 := Az.mk c8
       clear c8
       obtain ⟨y123, hy123⟩ : ∃ y_ : List ByteArray, y_ = (x3_1 ++ [t122]) := ⟨_, rfl⟩
       replace H : (impl_FormatNumbers.l0 k1 y123 l0 (l0.length : Int) (wrap64 (x9_1 + 1))) = some r := by first | (rw [hy123]; with_reducible exact H) | (have H2_ := (Option.bind_some _ _).symm.trans H; rw [hy123]; with_reducible exact H2_) | (have H2_ := (Option.bind_some _ _).symm.trans H; with_reducible exact H2_) | with_reducible exact H | (rw [hy123]; exact H) | exact H
       have Ny123 := Az.mk hy123
       clear hy123
       have H' := Az.mk H
       clear H
       have p121 : 0 ≤ (x9_1 : Int) := of_decide_eq_true (by first|(with_reducible assumption)|assumption)
       have q121 : x9_1 < (l0.length : Int) := of_decide_eq_true (by first|(with_reducible assumption)|assumption)
       obtain ⟨ad121, e121, hx121_0⟩ := Kd.at_int HR0.out x9_1 p121 q121
       cases e121
       replace hx121_0 := (HB.out.cell (World.block_lt_of_cell? w _ hx121_0)).trans hx121_0
       replace p121 := eq_true p121
       replace q121 := eq_true q121
       go_wp2_with (first | ((with_reducible refine gate_callee (f := 16) rfl ?_); refine goesL_ (some 15) rfl rfl Tryd.func16 (by kernel_rfl) rfl #[.int .i64 (rd l0 x9_1)] rfl (by (try simp only [List.map_toArray, List.map_cons, List.map_nil]); first | done | rfl | (simp only [List.length_drop, List.length_take]; rfl)) ?_; (with_reducible refine (strconv_Itoa.calls (rd l0 x9_1) t122 _ (HLd.out.below (by repeat first|exact HB.out|apply bA|apply bN|apply bD)) A7.out).mono ?_); rintro e w9 ⟨rfl, hb⟩; refine ⟨_, rfl, ?_⟩; have n0_ := Az.mk (Kd.Rb (by (with_reducible repeat first|apply Kd.Ra|apply Kd.Rn|apply Kd.Rw); exact HO_3.out) hb); have n1_ := Az.mk (bS (by repeat first|exact HB.out|apply bA|apply bN|apply bD) hb); clear HO_3; clear HB; have HO_3 := n0_; have HB := n1_; clear n0_ n1_; (try clear hb); (try clear hb2); (try clear hk); (try clear hi)) | ((with_reducible refine gate_builtin (b := .append) (xs := #[.tmp 13, .tmp 16]) rfl ?_); at_builtin; refine Kd.R_append Kd.string (w0 := w) w.heap.size rfl (.tmp 13) (.tmp 16) 38 9 (.string ⟨#[]⟩) 16 rfl Tryd.underlying38 info9 rfl (by decide) (by omega) u3 x3_1 t122 [.string t122] (fun _ => True) (fun _ => False) rfl rfl ?aP (fun _ hk => hk.elim) ?aF ?aO ?aB ?aS ?aL ?_; (case aP => exact rfl); (case aB => exact (by repeat first|exact HB.out|apply bA|apply bN|apply bD)); (case aF => exact (fun _ _ => trivial)); (case aO => exact (by (with_reducible repeat first|apply Kd.Ra|apply Kd.Rn|apply Kd.Rw); exact HO_3.out)); (case aS => exact (bZ (by repeat first|exact HB.out|apply bA|apply bN|apply bD))); (case aL => have := LMc8.out; omega); intro v124 w10 ho hb hg hat; rw [← Ny123.out] at ho; have n0_ := Az.mk (hb); have n1_ := Az.mk (ho); clear HB; clear HO_3; have HB := n0_; have HO125 := n1_; clear n0_ n1_; clear ho hb hg hat))
       go_roundg k1
       case measure => have := HK1.out; omega
       case rel => exact ⟨(y123), (wrap64 (x9_1 + 1)), (by first | rfl | (simp; done) | (simp [*]; done)), H', ⟨by have := HK1.out; omega⟩, ⟨by (with_reducible repeat first|apply Kd.Ra|apply Kd.Rn|apply Kd.Rw); exact HO125.out⟩, ⟨by repeat (first | (with_reducible first|exact HB.out|apply bA|apply bN|apply bD) | exact HB.out)⟩⟩
      ·rw [if_neg c8] at H
       exact absurd H (by simp)
     ·rw [if_neg c6] at H
      exact absurd H (by simp)
    ·rw [if_neg c5] at H
     exact absurd H (by simp)
   ·rw [if_neg c4] at H
    have c4b0 : decide (x9_1 < (l0.length : Int)) = false := decide_eq_false c4
    clear c4
    replace H := Option.bind_eq_some_iff.mp H
    obtain ⟨t126, A110, H⟩ := H
    replace H : (some t126) = some r := H
    have A11 := Az.mk A110
    clear A110
    obtain rfl := Option.some.inj H
    obtain ⟨Ao12, co12, eo12⟩ := Kd.R_slice HO_3.out
    subst eo12
    go_wp2_with (first | ((with_reducible refine gate_callee (f := 17) rfl ?_); refine goesL_ (some 20) rfl rfl Tryd.func17 (by kernel_rfl) rfl #[.slice Ao12 x3_1.length co12] rfl (by (try simp only [List.map_toArray, List.map_cons, List.map_nil]); first | done | rfl | (simp only [List.length_drop, List.length_take]; rfl)) ?_; (with_reducible refine (impl_spaced.calls _ _ x3_1 t126 _ ?side1 ?side2 (R_spot HO_3.out) A11.out).mono ?_); (case side1 => repeat (first | exact (Kd.R_reads' HO_3.out).2.2 | (with_reducible refine Kd.C_alloc ?_ _) | (with_reducible refine Kd.C_drewN ?_ _) | (with_reducible refine Kd.C_drew ?_))); (case side2 => exact (Kd.R_reads' HO_3.out).2.1); rintro e w13 ⟨rfl, hb⟩; refine ⟨_, rfl, ?_⟩; have n0_ := Az.mk (Kd.Rb (by (with_reducible repeat first|apply Kd.Ra|apply Kd.Rn|apply Kd.Rw); exact HO_3.out) hb); have n1_ := Az.mk (bS (by repeat first|exact HB.out|apply bA|apply bN|apply bD) hb); clear HO_3; clear HB; have HO_3 := n0_; have HB := n1_; clear n0_ n1_; (try clear hb); (try clear hb2); (try clear hk); (try clear hi)))
    go_ret
    exact ⟨by first | rfl | (simp [errW_none, errW_some] <;> rfl) | (simp [*, errW_none, errW_some] <;> rfl), by repeat (first | (with_reducible first|exact HB.out|apply bA|apply bN|apply bD) | exact HB.out)⟩
def impl_FormatLives.l0 : Nat → List ByteArray → List (S42) → Int → Int → Option (ByteArray)
 | 0, _, _, _, _ => none
 | k + 1, x3, x7, x8, x9 => if x9 < x8 then (if 0 ≤ x9 then (if x9 < (x7.length : Int) then ((strconv_Itoa.f ((rd_T42 x7 x9).f0)).bind fun t140 => (if t140.size + 1 ≤ 9223372036854775807 then ((strconv_Itoa.f ((rd_T42 x7 x9).f1)).bind fun t141 => (if (t140 ++ (⟨#[47]⟩ : ByteArray)).size + t141.size ≤ 9223372036854775807 then (if ((t140 ++ (⟨#[47]⟩ : ByteArray)) ++ t141).size + 1 ≤ 9223372036854775807 then ((strconv_Itoa.f ((rd_T42 x7 x9).f2)).bind fun t142 => (if (((t140 ++ (⟨#[47]⟩ : ByteArray)) ++ t141) ++ (⟨#[47]⟩ : ByteArray)).size + t142.size ≤ 9223372036854775807 then (if x3.length < 8796093022208 then (impl_FormatLives.l0 k (x3 ++ [(((t140 ++ (⟨#[47]⟩ : ByteArray)) ++ t141) ++ (⟨#[47]⟩ : ByteArray)) ++ t142]) x7 x8 (wrap64 (x9 + 1))) else (none)) else (none))) else (none)) else (none))) else (none))) else (none)) else (none)) else ((impl_spaced.f x3).bind fun t146 => (some t146))
def impl_FormatLives.f (k : Nat) (l0 : List (S42)) : Option (ByteArray) := impl_FormatLives.l0 k (([] : List ByteArray)) l0 (l0.length : Int) 0
def impl_FormatLives.T5 : Bool × List (List Nat × List Nat) := (true, [([], []), ([], []), ([1], [1]), ([2], [2]), ([3], [3]), ([], []), ([5], [5]), ([6, 3], [6]), ([4, 7], [4, 7]), ([8], [8]), ([], []), ([10], [10]), ([11, 7], [11]), ([9, 12], [9, 12]), ([13], [13]), ([0, 14, 12], [0, 14]), ([15, 15, 0, 1, 2, 3, 4, 5, 6, 7, 8, 9, 10, 11, 12, 13, 14, 15], [0, 15])])
def impl_FormatLives.B5 : List Nat := [0, 0, 2, 6, 14, 0, 32, 110, 254, 510, 0, 1024, 3310, 8190, 16382, 32767, 65535]
theorem impl_FormatLives.tab5 : rtab .any (opsOf Tryd.f9 5) = impl_FormatLives.T5 := by kernel_rfl
theorem impl_FormatLives.bits5 : waitsOk impl_FormatLives.T5.2 impl_FormatLives.B5 = true := by kernel_rfl
set_option maxHeartbeats 8000000 in
set_option maxRecDepth 100000 in
theorem impl_FormatLives.calls (k : Nat) (A0 : Option Addr) (c0 : Nat) (l0 : List (S42)) (r : ByteArray) (w : World) (hr0 : Kd.C k42 w A0 l0.length l0) (hc0 : l0.length ≤ c0) (hLd : LaidT w) (h : impl_FormatLives.f k l0 = some r) :
  Calls Tryd.prog 9 #[.slice A0 l0.length c0] w fun e w' => e = .returned (.string r) ∧ Below w.heap.size w w' := by
 have hu42 := Tryd.underlying42
 have HR0 := Az.mk hr0
 have HC0 := Az.mk hc0
 clear hr0 hc0
 have HB := Az.mk (Below.refl w.heap.size w)
 have HLd := Az.mk hLd
 clear hLd
 have H : (impl_FormatLives.l0 k (([] : List ByteArray)) l0 (l0.length : Int) 0) = some r := h
 clear h
 obtain ⟨y135, hy135⟩ : ∃ y_ : List ByteArray, y_ = (([] : List ByteArray)) := ⟨_, rfl⟩
 replace H : (impl_FormatLives.l0 k y135 l0 (l0.length : Int) 0) = some r := by first | (rw [hy135]; with_reducible exact H) | (have H2_ := (Option.bind_some _ _).symm.trans H; rw [hy135]; with_reducible exact H2_) | (have H2_ := (Option.bind_some _ _).symm.trans H; with_reducible exact H2_) | with_reducible exact H | (rw [hy135]; exact H) | exact H
 have Ny135 := Az.mk hy135
 clear hy135
 have H' := Az.mk H
 clear H
 go_enter Tryd.func9, Tryd.ntmps9
 go_wp2_with (first | ((with_reducible refine gate_dst (N := 6) rfl ?_); refine Kd.R_lit Kd.string _ 9 ?hg (N := 6) ?hd (xs := ([] : List ByteArray)) (inner := []) (ok := fun _ => True) (okp := fun _ => True) ?hr ?hp (fun _ hk => hk) trivial (Below.refl _ _) (Nat.le_refl _) (by simp) ?_; (case hd => rfl); (case hg => rfl); (case hr => first | (go_simp; done) | (go_simp; rfl)); (case hp => exact (Reps.none _ _)); intro v136 w2 ho3 hb hg_ hnew_; clear hg_ hnew_; (first | rw [← Ny135.out] at ho3 | (simp only [Int.reduceToNat] at ho3; rw [← Ny135.out] at ho3)); have n0_ := Az.mk (Kd.R_lower ho3 (bZ (by repeat first|exact HB.out|apply bA|apply bN|apply bD))); have n1_ := Az.mk (bS (by repeat first|exact HB.out|apply bA|apply bN|apply bD) hb); clear HB; have HO137 := n0_; have HB := n1_; clear n0_ n1_; clear hb ho3))
 go_loopg [3, 9] k (fun kq v3 v9 w' => ∃ (x3_1 : List ByteArray) (x9_1 : Int), v9 = .int .i64 x9_1 ∧ Az (impl_FormatLives.l0 kq x3_1 l0 (l0.length : Int) x9_1 = some r) ∧ Az (kq ≤ k) ∧ Az (Kd.R Kd.string 9 w' w.heap.size (fun _ => True) v3 x3_1) ∧ Az (Below w.heap.size w w'))
 case atStart => exact ⟨(y135), (0), (by first | rfl | (simp; done) | (simp [*]; done)), H', ⟨Nat.le_refl _⟩, ⟨by (with_reducible repeat first|apply Kd.Ra|apply Kd.Rn|apply Kd.Rw); exact HO137.out⟩, ⟨by repeat (first | (with_reducible first|exact HB.out|apply bA|apply bN|apply bD) | exact HB.out)⟩⟩
 case round =>
  clear H'
  try clear p2
  obtain ⟨x3_1, x9_1, rfl, HA, HK1, HO_3, HB⟩ := hrel
  cases gk with
  | zero => exact absurd HA.out (by simp [impl_FormatLives.l0])
  | succ k1 =>
   have H := HA.out
   clear HA
   simp only [impl_FormatLives.l0] at H
   by_cases c4 : x9_1 < (l0.length : Int)
   ·rw [if_pos c4] at H
    have c4b0 : decide (x9_1 < (l0.length : Int)) = true := decide_eq_true c4
    clear c4
    by_cases c5 : 0 ≤ x9_1
    ·rw [if_pos c5] at H
     have c5b0 : decide (0 ≤ x9_1) = true := decide_eq_true c5
     clear c5
     by_cases c6 : x9_1 < (l0.length : Int)
     ·rw [if_pos c6] at H
      have c6b0 : decide (x9_1 < (l0.length : Int)) = true := decide_eq_true c6
      clear c6
      replace H := Option.bind_eq_some_iff.mp H
      obtain ⟨t140, A70, H⟩ := H
      replace H : (if t140.size + 1 ≤ 9223372036854775807 then ((strconv_Itoa.f ((rd_T42 l0 x9_1).f1)).bind fun t141 => (if (t140 ++ (⟨#[47]⟩ : ByteArray)).size + t141.size ≤ 9223372036854775807 then (if ((t140 ++ (⟨#[47]⟩ : ByteArray)) ++ t141).size + 1 ≤ 9223372036854775807 then ((strconv_Itoa.f ((rd_T42 l0 x9_1).f2)).bind fun t142 => (if (((t140 ++ (⟨#[47]⟩ : ByteArray)) ++ t141) ++ (⟨#[47]⟩ : ByteArray)).size + t142.size ≤ 9223372036854775807 then (if x3_1.length < 8796093022208 then (impl_FormatLives.l0 k1 (x3_1 ++ [(((t140 ++ (⟨#[47]⟩ : ByteArray)) ++ t141) ++ (⟨#[47]⟩ : ByteArray)) ++ t142]) l0 (l0.length : Int) (wrap64 (x9_1 + 1))) else (none)) else (none))) else (none)) else (none))) else (none)) = some r := H
      have A7 := Az.mk A70
      clear A70
      by_cases c8 : t140.size + 1 ≤ 9223372036854775807
      ·rw [if_pos c8] at H
       have c8b0 := eq_true c8
       have c8b1 : decide (t140.size + 1 ≤ 9223372036854775807) = true := decide_eq_true c8
       try have c8b2 : (9223372036854775807 < t140.size + 1) = False := eq_false (Nat.not_lt.2 c8)
       replace H := Option.bind_eq_some_iff.mp H
       obtain ⟨t141, A90, H⟩ := H
       replace H : (if (t140 ++ (⟨#[47]⟩ : ByteArray)).size + t141.size ≤ 9223372036854775807 then (if ((t140 ++ (⟨#[47]⟩ : ByteArray)) ++ t141).size + 1 ≤ 9223372036854775807 then ((strconv_Itoa.f ((rd_T42 l0 x9_1).f2)).bind fun t142 => (if (((t140 ++ (⟨#[47]⟩ : ByteArray)) ++ t141) ++ (⟨#[47]⟩ : ByteArray)).size + t142.size ≤ 9223372036854775807 then (if x3_1.length < 8796093022208 then (impl_FormatLives.l0 k1 (x3_1 ++ [(((t140 ++ (⟨#[47]⟩ : ByteArray)) ++ t141) ++ (⟨#[47]⟩ : ByteArray)) ++ t142]) l0 (l0.length : Int) (wrap64 (x9_1 + 1))) else (none)) else (none))) else (none)) else (none)) = some r := H
       have A9 := Az.mk A90
       clear A90
       by_cases c10 : (t140 ++ (⟨#[47]⟩ : ByteArray)).size + t141.size ≤ 9223372036854775807
       ·rw [if_pos c10] at H
        have c10b0 := eq_true c10
        have c10b1 : decide ((t140 ++ (⟨#[47]⟩ : ByteArray)).size + t141.size ≤ 9223372036854775807) = true := decide_eq_true c10
        try have c10b2 : (9223372036854775807 < (t140 ++ (⟨#[47]⟩ : ByteArray)).size + t141.size) = False := eq_false (Nat.not_lt.2 c10)
        have c10z : t140.size + 1 + t141.size ≤ 9223372036854775807 := by have h := c10; simp only [ByteArray.size_append] at h; exact h
        have c10b4 : decide (t140.size + 1 + t141.size ≤ 9223372036854775807) = true := decide_eq_true c10z
        have c10b5 : (9223372036854775807 < t140.size + 1 + t141.size) = False := eq_false (Nat.not_lt.2 c10z)
        replace c10z := eq_true c10z
        by_cases c11 : ((t140 ++ (⟨#[47]⟩ : ByteArray)) ++ t141).size + 1 ≤ 9223372036854775807
        ·rw [if_pos c11] at H
         have c11b0 := eq_true c11
         have c11b1 : decide (((t140 ++ (⟨#[47]⟩ : ByteArray)) ++ t141).size + 1 ≤ 9223372036854775807) = true := decide_eq_true c11
         try have c11b2 : (9223372036854775807 < ((t140 ++ (⟨#[47]⟩ : ByteArray)) ++ t141).size + 1) = False := eq_false (Nat.not_lt.2 c11)
         have c11z : t140.size + 1 + t141.size + 1 ≤ 9223372036854775807 := by have h := c11; simp only [ByteArray.size_append] at h; exact h
         have c11b4 : decide (t140.size + 1 + t141.size + 1 ≤ 9223372036854775807) = true := decide_eq_true c11z
         have c11b5 : (9223372036854775807 < t140.size + 1 + t141.size + 1) = False := eq_false (Nat.not_lt.2 c11z)
         replace c11z := eq_true c11z
         replace H := Option.bind_eq_some_iff.mp H
         obtain ⟨t142, A120, H⟩ := H
         replace H : (if (((t140 ++ (⟨#[47]⟩ : ByteArray)) ++ t141) ++ (⟨#[47]⟩ : ByteArray)).size + t142.size ≤ 9223372036854775807 then (if x3_1.length < 8796093022208 then (impl_FormatLives.l0 k1 (x3_1 ++ [(((t140 ++ (⟨#[47]⟩ : ByteArray)) ++ t141) ++ (⟨#[47]⟩ : ByteArray)) ++ t142]) l0 (l0.length : Int) (wrap64 (x9_1 + 1))) else (none)) else (none)) = some r := H
         have A12 := Az.mk A120
         clear A120
         by_cases c13 : (((t140 ++ (⟨#[47]⟩ : ByteArray)) ++ t141) ++ (⟨#[47]⟩ : ByteArray)).size + t142.size ≤ 9223372036854775807
         ·rw [if_pos c13] at H
          have c13b0 := eq_true c13
          have c13b1 : decide ((((t140 ++ (⟨#[47]⟩ : ByteArray)) ++ t141) ++ (⟨#[47]⟩ : ByteArray)).size + t142.size ≤ 9223372036854775807) = true := decide_eq_true c13
          try have c13b2 : (9223372036854775807 < (((t140 ++ (⟨#[47]⟩ : ByteArray)) ++ t141) ++ (⟨#[47]⟩ : ByteArray)).size + t142.size) = False := eq_false (Nat.not_lt.2 c13)
          have c13z : t140.size + 1 + t141.size + 1 + t142.size ≤ 9223372036854775807 := by have h := c13; simp only [ByteArray.size_append] at h; exact h
          have c13b4 : decide (t140.size + 1 + t141.size + 1 + t142.size ≤ 9223372036854775807) = true := decide_eq_true c13z
          have c13b5 : (9223372036854775807 < t140.size + 1 + t141.size + 1 + t142.size) = False := eq_false (Nat.not_lt.2 c13z)
          replace c13z := eq_true c13z
          by_cases c14 : x3_1.length < 8796093022208
          ·rw [if_pos c14] at H
           have LMc14 := Az.mk c14
           clear c14
           obtain ⟨y143, hy143⟩ : ∃ y_ : List ByteArray, y_ = (x3_1 ++ [(((t140 ++ (⟨#[47]⟩ : ByteArray)) ++ t141) ++ (⟨#[47]⟩ : ByteArray)) ++ t142]) := ⟨_, rfl⟩
           replace H : (impl_FormatLives.l0 k1 y143 l0 (l0.length : Int) (wrap64 (x9_1 + 1))) = some r := by first | (rw [hy143]; with_reducible exact H) | (have H2_ := (Option.bind_some _ _).symm.trans H; rw [hy143]; with_reducible exact H2_) | (have H2_ := (Option.bind_some _ _).symm.trans H; with_reducible exact H2_) | with_reducible exact H | (rw [hy143]; exact H) | exact H
           have Ny143 := Az.mk hy143
           clear hy143
           have H' := Az.mk H
           clear H
           have p138 : 0 ≤ (x9_1 : Int) := of_decide_eq_true (by first|(with_reducible assumption)|assumption)
           have q138 : x9_1 < (l0.length : Int) := of_decide_eq_true (by first|(with_reducible assumption)|assumption)
           obtain ⟨ad138, e138, hx138_0, hx138_1, hx138_2⟩ := at_T42 HR0.out x9_1 p138 q138
           cases e138
           replace hx138_0 := (HB.out.cell (World.block_lt_of_cell? w _ hx138_0)).trans hx138_0
           replace hx138_1 := (HB.out.cell (World.block_lt_of_cell? w _ hx138_1)).trans hx138_1
           replace hx138_2 := (HB.out.cell (World.block_lt_of_cell? w _ hx138_2)).trans hx138_2
           replace p138 := eq_true p138
           replace q138 := eq_true q138
           try go_wp2_with (first | ((with_reducible refine gate_dst (N := 5) rfl ?_); refine box_event ?hg (N := 5) ?hd (cs := #[.int .i64 0, .int .i64 0, .int .i64 0]) (t := 42) ?hr ?_; (case hd => rfl); (case hg => rfl); (case hr => first | (go_simp; done) | (go_simp; rfl)); intro gb139 hg w15 hbox hb; have n0_ := Az.mk (Kd.Rb (by (with_reducible repeat first|apply Kd.Ra|apply Kd.Rn|apply Kd.Rw); exact HO_3.out) hb); have n1_ := Az.mk (bS (by repeat first|exact HB.out|apply bA|apply bN|apply bD) hb); have n2_ := Az.mk (hbox); have n3_ := Az.mk ((by rw [hg]; exact (bZ (by repeat first|exact HB.out|apply bA|apply bN|apply bD)) : w.heap.size ≤ gb139)); have n4_ := Az.mk ((by rw [hg]; exact (bZ (by repeat first|exact HB.out|apply bA|apply bN|apply bD)) : w.heap.size ≤ gb139)); clear HO_3; clear HB; have HO_3 := n0_; have HB := n1_; have BK139 := n2_; have GW139 := n3_; have GE139 := n4_; clear n0_ n1_ n2_ n3_ n4_; clear hb hbox hg; have hcz16_0 : w15.cell? ⟨gb139, 0, none⟩ = some (.int .i64 0) := (blk_cell BK139.out 0).trans rfl; have hcz16_1 : w15.cell? ⟨gb139, 1, none⟩ = some (.int .i64 0) := (blk_cell BK139.out 1).trans rfl; have hcz16_2 : w15.cell? ⟨gb139, 2, none⟩ = some (.int .i64 0) := (blk_cell BK139.out 2).trans rfl; have hfz16_0 := blk_frozen BK139.out 0; have hfz16_1 := blk_frozen BK139.out 1; have hfz16_2 := blk_frozen BK139.out 2))
           have n0_ : Az (Kd.R Kd.string 9 (((w15.setCell ⟨gb139, 0, none⟩ (.int .i64 ((rd_T42 l0 x9_1).f0))).setCell ⟨gb139, 1, none⟩ (.int .i64 ((rd_T42 l0 x9_1).f1))).setCell ⟨gb139, 2, none⟩ (.int .i64 ((rd_T42 l0 x9_1).f2))) w.heap.size (fun _ => True) u3 x3_1) := ⟨by (with_reducible repeat first|apply Kd.Ra|apply Kd.Rn|apply Kd.Rw); exact Kd.R_mono (Kd.R_far (p := ⟨gb139, 2, none⟩) (Kd.R_far (p := ⟨gb139, 1, none⟩) (Kd.R_far (p := ⟨gb139, 0, none⟩) (Kd.R_types HO_3.out BK139.out (by decide)) (fun _ hk => hk.2) (.int .i64 ((rd_T42 l0 x9_1).f0))) (fun _ hk => hk.2) (.int .i64 ((rd_T42 l0 x9_1).f1))) (fun _ hk => hk.2) (.int .i64 ((rd_T42 l0 x9_1).f2))) (fun _ hk => trivial)⟩
           have n1_ : Az ((((w15.setCell ⟨gb139, 0, none⟩ (.int .i64 ((rd_T42 l0 x9_1).f0))).setCell ⟨gb139, 1, none⟩ (.int .i64 ((rd_T42 l0 x9_1).f1))).setCell ⟨gb139, 2, none⟩ (.int .i64 ((rd_T42 l0 x9_1).f2))).heap[gb139]? = some (.cells #[.int .i64 ((rd_T42 l0 x9_1).f0), .int .i64 ((rd_T42 l0 x9_1).f1), .int .i64 ((rd_T42 l0 x9_1).f2)] 42 (0, 0))) := ⟨by (with_reducible repeat first|refine blN ?_ _|refine bl1 ?_|refine blA ?_ _); refine blk_put (cs := #[.int .i64 ((rd_T42 l0 x9_1).f0), .int .i64 ((rd_T42 l0 x9_1).f1), .int .i64 0]) ?_ 2 _ rfl; (with_reducible repeat first|refine blN ?_ _|refine bl1 ?_|refine blA ?_ _); refine blk_put (cs := #[.int .i64 ((rd_T42 l0 x9_1).f0), .int .i64 0, .int .i64 0]) ?_ 1 _ rfl; (with_reducible repeat first|refine blN ?_ _|refine bl1 ?_|refine blA ?_ _); refine blk_put (cs := #[.int .i64 0, .int .i64 0, .int .i64 0]) ?_ 0 _ rfl; (with_reducible repeat first|refine blN ?_ _|refine bl1 ?_|refine blA ?_ _); exact BK139.out⟩
           have n2_ : Az (Below w.heap.size w (((w15.setCell ⟨gb139, 0, none⟩ (.int .i64 ((rd_T42 l0 x9_1).f0))).setCell ⟨gb139, 1, none⟩ (.int .i64 ((rd_T42 l0 x9_1).f1))).setCell ⟨gb139, 2, none⟩ (.int .i64 ((rd_T42 l0 x9_1).f2)))) := ⟨by repeat (first | (with_reducible first|exact HB.out|apply bA|apply bN|apply bD | refine below_set ?_ GE139.out) | exact HB.out)⟩
           (try clear HO_3)
           (try clear BK139)
           (try clear HB)
           generalize (((w15.setCell ⟨gb139, 0, none⟩ (.int .i64 ((rd_T42 l0 x9_1).f0))).setCell ⟨gb139, 1, none⟩ (.int .i64 ((rd_T42 l0 x9_1).f1))).setCell ⟨gb139, 2, none⟩ (.int .i64 ((rd_T42 l0 x9_1).f2))) = w17 at n0_ n1_ n2_ ⊢
           have HO_3 := n0_
           have BK139 := n1_
           have HB := n2_
           clear n0_ n1_ n2_
           have n0_ := Az.mk (Kd.Rw HO_3.out)
           have n1_ := Az.mk (bl1 BK139.out)
           have n2_ := Az.mk (bD HB.out)
           clear HO_3
           clear BK139
           clear HB
           have HO_3 := n0_
           have BK139 := n1_
           have HB := n2_
           clear n0_ n1_ n2_
           refine start_ (n := 17) (S := fun w' => w'.cell? ⟨gb139, 0, none⟩ = some (.int .i64 ((rd_T42 l0 x9_1).f0)) ∧ w'.cell? ⟨gb139, 1, none⟩ = some (.int .i64 ((rd_T42 l0 x9_1).f1)) ∧ w'.cell? ⟨gb139, 2, none⟩ = some (.int .i64 ((rd_T42 l0 x9_1).f2))) (ds := []) #[false, false, false, false, false, false, false, false, false, false, false, false, false, false, false, false, false] (by kernel_rfl) rfl rfl ⟨(blk_cell BK139.out 0).trans rfl, (blk_cell BK139.out 1).trans rfl, (blk_cell BK139.out 2).trans rfl⟩ (fun hHeld => ?_); refine with_tabW impl_FormatLives.tab5 impl_FormatLives.bits5 (fun HT_ HW_ => ?_)
           generalize w17.drew = w18 at HO_3 BK139 HB hHeld ⊢
           refine pure_ (i := 0) (N := some 13) (v := ?_) (a' := ?_) #[true, false, false, false, false, false, false, false, false, false, false, false, false, false, false, false, false] rfl rfl (any_of HT_.out (by kernel_rfl)) (fun _ _ _ h => h) (Or.inl ⟨by rfl, ?_⟩) ?_ ?_
           rotate_left
           ·intro w'
            go_simp
            with_reducible rfl
           rotate_left
           ·simp only [Act.put, List.setIfInBounds_toArray, List.set_cons_zero, List.set_cons_succ, i64_w, i32_w]
            rfl
           refine pure_ (i := 1) (N := some 14) (v := ?_) (a' := ?_) #[true, true, false, false, false, false, false, false, false, false, false, false, false, false, false, false, false] rfl rfl (any_of HT_.out (by kernel_rfl)) (fun _ _ _ h => h) (Or.inl ⟨by rfl, ?_⟩) ?_ ?_
           rotate_left
           ·intro w'
            go_simp
            with_reducible rfl
           rotate_left
           ·simp only [Act.put, List.setIfInBounds_toArray, List.set_cons_zero, List.set_cons_succ, i64_w, i32_w]
            rfl
           refine pure_ (i := 5) (N := some 18) (v := ?_) (a' := ?_) #[true, true, false, false, false, true, false, false, false, false, false, false, false, false, false, false, false] rfl rfl (any_of HT_.out (by kernel_rfl)) (fun _ _ _ h => h) (Or.inl ⟨by rfl, ?_⟩) ?_ ?_
           rotate_left
           ·intro w'
            go_simp
            with_reducible rfl
           rotate_left
           ·simp only [Act.put, List.setIfInBounds_toArray, List.set_cons_zero, List.set_cons_succ, i64_w, i32_w]
            rfl
           refine pure_ (i := 10) (N := some 23) (v := ?_) (a' := ?_) #[true, true, false, false, false, true, false, false, false, false, true, false, false, false, false, false, false] rfl rfl (any_of HT_.out (by kernel_rfl)) (fun _ _ _ h => h) (Or.inl ⟨by rfl, ?_⟩) ?_ ?_
           rotate_left
           ·intro w'
            go_simp
            with_reducible rfl
           rotate_left
           ·simp only [Act.put, List.setIfInBounds_toArray, List.set_cons_zero, List.set_cons_succ, i64_w, i32_w]
            rfl
           refine take_ (i := 2) (N := some 15) (v := ?_) (a' := ?_) #[true, true, true, false, false, true, false, false, false, false, true, false, false, false, false, false, false] rfl rfl (take_ofW HT_.out HW_.out (by kernel_rfl)) (fun _ _ _ h => h) (Or.inl ⟨by rfl, ?_⟩) hHeld ?_ ?_
           rotate_left
           ·rintro w' ⟨s0, s1, s2⟩
            go_simp
            with_reducible rfl
           rotate_left
           ·simp only [Act.put, List.setIfInBounds_toArray, List.set_cons_zero, List.set_cons_succ, i64_w, i32_w]
            rfl
           refine take_ (i := 6) (N := some 19) (v := ?_) (a' := ?_) #[true, true, true, false, false, true, true, false, false, false, true, false, false, false, false, false, false] rfl rfl (take_ofW HT_.out HW_.out (by kernel_rfl)) (fun _ _ _ h => h) (Or.inl ⟨by rfl, ?_⟩) hHeld ?_ ?_
           rotate_left
           ·rintro w' ⟨s0, s1, s2⟩
            go_simp
            with_reducible rfl
           rotate_left
           ·simp only [Act.put, List.setIfInBounds_toArray, List.set_cons_zero, List.set_cons_succ, i64_w, i32_w]
            rfl
           refine take_ (i := 11) (N := some 24) (v := ?_) (a' := ?_) #[true, true, true, false, false, true, true, false, false, false, true, true, false, false, false, false, false] rfl rfl (take_ofW HT_.out HW_.out (by kernel_rfl)) (fun _ _ _ h => h) (Or.inl ⟨by rfl, ?_⟩) hHeld ?_ ?_
           rotate_left
           ·rintro w' ⟨s0, s1, s2⟩
            go_simp
            with_reducible rfl
           rotate_left
           ·simp only [Act.put, List.setIfInBounds_toArray, List.set_cons_zero, List.set_cons_succ, i64_w, i32_w]
            rfl
           refine one_ (i := 3) (N := some 16) #[true, true, true, true, false, true, true, false, false, false, true, true, false, false, false, false, false] rfl rfl (one_of HT_.out (by kernel_rfl)) (by decide) (fun K hK => ?_)
           refine goes_ Tryd.func16 (by kernel_rfl) rfl #[.int .i64 ((rd_T42 l0 x9_1).f0)] (by rfl) rfl rfl (by (try simp only [List.map_toArray, List.map_cons, List.map_nil]); first | done | rfl | (simp only [List.length_drop, List.length_take]; rfl)) ?_
           with_reducible refine (strconv_Itoa.calls ((rd_T42 l0 x9_1).f0) t140 _ (HLd.out.below (by repeat (first | (with_reducible first|exact HB.out|apply bA|apply bN|apply bD | refine below_set ?_ GE139.out) | exact HB.out))) A7.out).mono ?_
           rintro e w19 ⟨rfl, hb⟩
           refine ⟨_, rfl, ?_⟩
           have n0_ := Az.mk (Kd.Rb (by (with_reducible repeat first|apply Kd.Ra|apply Kd.Rn|apply Kd.Rw); exact HO_3.out) hb)
           have n1_ := Az.mk (blk_below (g := gb139) (o := .cells #[.int .i64 ((rd_T42 l0 x9_1).f0), .int .i64 ((rd_T42 l0 x9_1).f1), .int .i64 ((rd_T42 l0 x9_1).f2)] 42 (0, 0)) (by (with_reducible repeat first|refine blN ?_ _|refine bl1 ?_|refine blA ?_ _); exact BK139.out) hb)
           have n2_ := Az.mk (bS (by repeat (first | (with_reducible first|exact HB.out|apply bA|apply bN|apply bD | refine below_set ?_ GE139.out) | exact HB.out)) hb)
           clear HO_3
           clear BK139
           clear HB
           have HO_3 := n0_
           have BK139 := n1_
           have HB := n2_
           clear n0_ n1_ n2_
           (try clear hb)
           (try clear hb2)
           (try clear hk)
           (try clear hi)
           refine hK.out _ _ ⟨(blk_cell BK139.out 0).trans rfl, (blk_cell BK139.out 1).trans rfl, (blk_cell BK139.out 2).trans rfl⟩ (fun hHeld => ?_)
           clear hK K
           refine norm_ (a' := ?_) ?_ ?_
           rotate_left
           ·show Act.put _ (some 16) _ = _
            simp only [Act.put, List.setIfInBounds_toArray, List.set_cons_zero, List.set_cons_succ, i64_w, i32_w]
            rfl
           refine pure_ (i := 4) (N := some 17) (v := ?_) (a' := ?_) #[true, true, true, true, true, true, true, false, false, false, true, true, false, false, false, false, false] rfl rfl (any_of HT_.out (by kernel_rfl)) (fun _ _ _ h => h) (Or.inl ⟨by rfl, ?_⟩) ?_ ?_
           rotate_left
           ·intro w'
            go_simp
            with_reducible rfl
           rotate_left
           ·simp only [Act.put, List.setIfInBounds_toArray, List.set_cons_zero, List.set_cons_succ, i64_w, i32_w]
            rfl
           refine one_ (i := 7) (N := some 20) #[true, true, true, true, true, true, true, true, false, false, true, true, false, false, false, false, false] rfl rfl (one_of HT_.out (by kernel_rfl)) (by decide) (fun K hK => ?_)
           refine goes_ Tryd.func16 (by kernel_rfl) rfl #[.int .i64 ((rd_T42 l0 x9_1).f1)] (by rfl) rfl rfl (by (try simp only [List.map_toArray, List.map_cons, List.map_nil]); first | done | rfl | (simp only [List.length_drop, List.length_take]; rfl)) ?_
           with_reducible refine (strconv_Itoa.calls ((rd_T42 l0 x9_1).f1) t141 _ (HLd.out.below (by repeat (first | (with_reducible first|exact HB.out|apply bA|apply bN|apply bD | refine below_set ?_ GE139.out) | exact HB.out))) A9.out).mono ?_
           rintro e w20 ⟨rfl, hb⟩
           refine ⟨_, rfl, ?_⟩
           have n0_ := Az.mk (Kd.Rb (by (with_reducible repeat first|apply Kd.Ra|apply Kd.Rn|apply Kd.Rw); exact HO_3.out) hb)
           have n1_ := Az.mk (blk_below (g := gb139) (o := .cells #[.int .i64 ((rd_T42 l0 x9_1).f0), .int .i64 ((rd_T42 l0 x9_1).f1), .int .i64 ((rd_T42 l0 x9_1).f2)] 42 (0, 0)) (by (with_reducible repeat first|refine blN ?_ _|refine bl1 ?_|refine blA ?_ _); exact BK139.out) hb)
           have n2_ := Az.mk (bS (by repeat (first | (with_reducible first|exact HB.out|apply bA|apply bN|apply bD | refine below_set ?_ GE139.out) | exact HB.out)) hb)
           clear HO_3
           clear BK139
           clear HB
           have HO_3 := n0_
           have BK139 := n1_
           have HB := n2_
           clear n0_ n1_ n2_
           (try clear hb)
           (try clear hb2)
           (try clear hk)
           (try clear hi)
           refine hK.out _ _ ⟨(blk_cell BK139.out 0).trans rfl, (blk_cell BK139.out 1).trans rfl, (blk_cell BK139.out 2).trans rfl⟩ (fun hHeld => ?_)
           clear hK K
           refine norm_ (a' := ?_) ?_ ?_
           rotate_left
           ·show Act.put _ (some 20) _ = _
            simp only [Act.put, List.setIfInBounds_toArray, List.set_cons_zero, List.set_cons_succ, i64_w, i32_w]
            rfl
           refine pure_ (i := 8) (N := some 21) (v := ?_) (a' := ?_) #[true, true, true, true, true, true, true, true, true, false, true, true, false, false, false, false, false] rfl rfl (any_of HT_.out (by kernel_rfl)) (fun _ _ _ h => h) (Or.inl ⟨by rfl, ?_⟩) ?_ ?_
           rotate_left
           ·intro w'
            go_simp
            with_reducible rfl
           rotate_left
           ·simp only [Act.put, List.setIfInBounds_toArray, List.set_cons_zero, List.set_cons_succ, i64_w, i32_w]
            rfl
           refine pure_ (i := 9) (N := some 22) (v := ?_) (a' := ?_) #[true, true, true, true, true, true, true, true, true, true, true, true, false, false, false, false, false] rfl rfl (any_of HT_.out (by kernel_rfl)) (fun _ _ _ h => h) (Or.inl ⟨by rfl, ?_⟩) ?_ ?_
           rotate_left
           ·intro w'
            go_simp
            with_reducible rfl
           rotate_left
           ·simp only [Act.put, List.setIfInBounds_toArray, List.set_cons_zero, List.set_cons_succ, i64_w, i32_w]
            rfl
           refine one_ (i := 12) (N := some 25) #[true, true, true, true, true, true, true, true, true, true, true, true, true, false, false, false, false] rfl rfl (one_of HT_.out (by kernel_rfl)) (by decide) (fun K hK => ?_)
           refine goes_ Tryd.func16 (by kernel_rfl) rfl #[.int .i64 ((rd_T42 l0 x9_1).f2)] (by rfl) rfl rfl (by (try simp only [List.map_toArray, List.map_cons, List.map_nil]); first | done | rfl | (simp only [List.length_drop, List.length_take]; rfl)) ?_
           with_reducible refine (strconv_Itoa.calls ((rd_T42 l0 x9_1).f2) t142 _ (HLd.out.below (by repeat (first | (with_reducible first|exact HB.out|apply bA|apply bN|apply bD | refine below_set ?_ GE139.out) | exact HB.out))) A12.out).mono ?_
           rintro e w21 ⟨rfl, hb⟩
           refine ⟨_, rfl, ?_⟩
           have n0_ := Az.mk (Kd.Rb (by (with_reducible repeat first|apply Kd.Ra|apply Kd.Rn|apply Kd.Rw); exact HO_3.out) hb)
           have n1_ := Az.mk (blk_below (g := gb139) (o := .cells #[.int .i64 ((rd_T42 l0 x9_1).f0), .int .i64 ((rd_T42 l0 x9_1).f1), .int .i64 ((rd_T42 l0 x9_1).f2)] 42 (0, 0)) (by (with_reducible repeat first|refine blN ?_ _|refine bl1 ?_|refine blA ?_ _); exact BK139.out) hb)
           have n2_ := Az.mk (bS (by repeat (first | (with_reducible first|exact HB.out|apply bA|apply bN|apply bD | refine below_set ?_ GE139.out) | exact HB.out)) hb)
           clear HO_3
           clear BK139
           clear HB
           have HO_3 := n0_
           have BK139 := n1_
           have HB := n2_
           clear n0_ n1_ n2_
           (try clear hb)
           (try clear hb2)
           (try clear hk)
           (try clear hi)
           refine hK.out _ _ ⟨(blk_cell BK139.out 0).trans rfl, (blk_cell BK139.out 1).trans rfl, (blk_cell BK139.out 2).trans rfl⟩ (fun hHeld => ?_)
           clear hK K
           refine norm_ (a' := ?_) ?_ ?_
           rotate_left
           ·show Act.put _ (some 25) _ = _
            simp only [Act.put, List.setIfInBounds_toArray, List.set_cons_zero, List.set_cons_succ, i64_w, i32_w]
            rfl
           refine pure_ (i := 13) (N := some 26) (v := ?_) (a' := ?_) #[true, true, true, true, true, true, true, true, true, true, true, true, true, true, false, false, false] rfl rfl (any_of HT_.out (by kernel_rfl)) (fun _ _ _ h => h) (Or.inl ⟨by rfl, ?_⟩) ?_ ?_
           rotate_left
           ·intro w'
            go_simp
            with_reducible rfl
           rotate_left
           ·simp only [Act.put, List.setIfInBounds_toArray, List.set_cons_zero, List.set_cons_succ, i64_w, i32_w]
            rfl
           refine one_ (i := 14) (N := some 27) #[true, true, true, true, true, true, true, true, true, true, true, true, true, true, true, false, false] rfl rfl (one_of HT_.out (by kernel_rfl)) (by decide) (fun K hK => ?_)
           refine value_ (w1 := ?_) (v := ?_) (by rfl) rfl ?_ ?_
           rotate_left 2
           ·go_simp
            constructor
            ·rfl
            ·rfl
           refine hK.out _ _ ⟨(blk_cell (blA BK139.out _) 0).trans rfl, (blk_cell (blA BK139.out _) 1).trans rfl, (blk_cell (blA BK139.out _) 2).trans rfl⟩ (fun hHeld => ?_)
           clear hK K
           refine norm_ (a' := ?_) ?_ ?_
           rotate_left
           ·show Act.put _ (some 27) _ = _
            simp only [Act.put, List.setIfInBounds_toArray, List.set_cons_zero, List.set_cons_succ, i64_w, i32_w]
            rfl
           refine one_ (i := 15) (N := some 28) #[true, true, true, true, true, true, true, true, true, true, true, true, true, true, true, true, false] rfl rfl (one_of HT_.out (by kernel_rfl)) (by decide) (fun K hK => ?_)
           refine Kd.R_append_step Kd.string (w0 := w) w.heap.size (by rfl) (.tmp 13) (.tmp 27) 38 9 (.string ⟨#[]⟩) 16 rfl Tryd.underlying38 info9 rfl (by decide) (by omega) u3 x3_1 ((((t140 ++ (⟨#[47]⟩ : ByteArray)) ++ t141) ++ (⟨#[47]⟩ : ByteArray)) ++ t142) [.string ((((t140 ++ (⟨#[47]⟩ : ByteArray)) ++ t141) ++ (⟨#[47]⟩ : ByteArray)) ++ t142)] (fun _ => True) (fun _ => False) rfl rfl ?aP (fun _ hk => hk.elim) ?aF ?aO ?aB ?aS ?aL ?_
           (case aP => exact rfl)
           (case aB => exact (by repeat (first | (with_reducible first|exact HB.out|apply bA|apply bN|apply bD | refine below_set ?_ GE139.out) | exact HB.out)))
           (case aF => exact (fun _ _ => trivial))
           (case aO => exact (by (with_reducible repeat first|apply Kd.Ra|apply Kd.Rn|apply Kd.Rw); exact HO_3.out))
           (case aS => exact (bZ (by repeat (first | (with_reducible first|exact HB.out|apply bA|apply bN|apply bD | refine below_set ?_ GE139.out) | exact HB.out))))
           (case aL => have := LMc14.out; omega)
           intro v144 w22 ho hb hg hat
           rw [← Ny143.out] at ho
           have n0_ := Az.mk (blk_grown (g := gb139) (o := .cells #[.int .i64 ((rd_T42 l0 x9_1).f0), .int .i64 ((rd_T42 l0 x9_1).f1), .int .i64 ((rd_T42 l0 x9_1).f2)] 42 (0, 0)) (by (with_reducible repeat first|refine blN ?_ _|refine bl1 ?_|refine blA ?_ _); exact BK139.out) hg (Kd.R_ne HO_3.out BK139.out (by decide)))
           have n1_ := Az.mk (hb)
           have n2_ := Az.mk (ho)
           clear BK139
           clear HB
           clear HO_3
           have BK139 := n0_
           have HB := n1_
           have HO145 := n2_
           clear n0_ n1_ n2_
           clear ho hb hg hat
           refine hK.out _ _ ⟨(blk_cell BK139.out 0).trans rfl, (blk_cell BK139.out 1).trans rfl, (blk_cell BK139.out 2).trans rfl⟩ (fun hHeld => ?_)
           clear hK K
           refine norm_ (a' := ?_) ?_ ?_
           rotate_left
           ·show Act.put _ (some 28) _ = _
            simp only [Act.put, List.setIfInBounds_toArray, List.set_cons_zero, List.set_cons_succ, i64_w, i32_w]
            rfl
           refine pure_ (i := 16) (N := some 3) (v := ?_) (a' := ?_) #[true, true, true, true, true, true, true, true, true, true, true, true, true, true, true, true, true] rfl rfl (any_of HT_.out (by kernel_rfl)) (fun _ _ _ h => h) (Or.inl ⟨by rfl, ?_⟩) ?_ ?_
           rotate_left
           ·intro w'
            go_simp
            with_reducible rfl
           rotate_left
           ·simp only [Act.put, List.setIfInBounds_toArray, List.set_cons_zero, List.set_cons_succ, i64_w, i32_w]
            rfl
           refine done_ (done_of HT_.out (by kernel_rfl)) ?_
           try go_wp2
           go_roundg k1
           case measure => have := HK1.out; omega
           case rel => exact ⟨(y143), (wrap64 (x9_1 + 1)), (by first | rfl | (simp; done) | (simp [*]; done)), H', ⟨by have := HK1.out; omega⟩, ⟨by (with_reducible repeat first|apply Kd.Ra|apply Kd.Rn|apply Kd.Rw); exact HO145.out⟩, ⟨by repeat (first | (with_reducible first|exact HB.out|apply bA|apply bN|apply bD | refine below_set ?_ GE139.out) | exact HB.out)⟩⟩
          ·rw [if_neg c14] at H
           exact absurd H (by simp)
         ·rw [if_neg c13] at H
          exact absurd H (by simp)
        ·rw [if_neg c11] at H
         exact absurd H (by simp)
       ·rw [if_neg c10] at H
        exact absurd H (by simp)
      ·rw [if_neg c8] at H
       exact absurd H (by simp)
     ·rw [if_neg c6] at H
      exact absurd H (by simp)
    ·rw [if_neg c5] at H
     exact absurd H (by simp)
   ·rw [if_neg c4] at H
    have c4b0 : decide (x9_1 < (l0.length : Int)) = false := decide_eq_false c4
    clear c4
    replace H := Option.bind_eq_some_iff.mp H
    obtain ⟨t146, A230, H⟩ := H
    replace H : (some t146) = some r := H
    have A23 := Az.mk A230
    clear A230
    obtain rfl := Option.some.inj H
    obtain ⟨Ao24, co24, eo24⟩ := Kd.R_slice HO_3.out
    subst eo24
    go_wp2_with (first | ((with_reducible refine gate_callee (f := 17) rfl ?_); refine goesL_ (some 31) rfl rfl Tryd.func17 (by kernel_rfl) rfl #[.slice Ao24 x3_1.length co24] rfl (by (try simp only [List.map_toArray, List.map_cons, List.map_nil]); first | done | rfl | (simp only [List.length_drop, List.length_take]; rfl)) ?_; (with_reducible refine (impl_spaced.calls _ _ x3_1 t146 _ ?side1 ?side2 (R_spot HO_3.out) A23.out).mono ?_); (case side1 => repeat (first | exact (Kd.R_reads' HO_3.out).2.2 | (with_reducible refine Kd.C_alloc ?_ _) | (with_reducible refine Kd.C_drewN ?_ _) | (with_reducible refine Kd.C_drew ?_))); (case side2 => exact (Kd.R_reads' HO_3.out).2.1); rintro e w25 ⟨rfl, hb⟩; refine ⟨_, rfl, ?_⟩; have n0_ := Az.mk (Kd.Rb (by (with_reducible repeat first|apply Kd.Ra|apply Kd.Rn|apply Kd.Rw); exact HO_3.out) hb); have n1_ := Az.mk (bS (by repeat first|exact HB.out|apply bA|apply bN|apply bD) hb); clear HO_3; clear HB; have HO_3 := n0_; have HB := n1_; clear n0_ n1_; (try clear hb); (try clear hb2); (try clear hk); (try clear hi)))
    go_ret
    exact ⟨by first | rfl | (simp [errW_none, errW_some] <;> rfl) | (simp [*, errW_none, errW_some] <;> rfl), by repeat (first | (with_reducible first|exact HB.out|apply bA|apply bN|apply bD) | exact HB.out)⟩
end Go.Proofs.YtojhdfdhfajjjaaDoor.Pr
namespace Go.Proofs.YtojhdfdhfajjjaaDoor.Pr
open Go.RowKit Go.Proofs.YtojhdfdhfajjjaaDoorW.PrintWords Go.Proofs.YtojhdfdhfajjjaaDoorW.PrintLast Go.Proofs.YtojhdfdhfajjjaaDoorW.PrintMore
set_option linter.unusedVariables false
set_option linter.unusedSimpArgs false
def nums_ (l : List Int) : List (List UInt8) := l.map Lib.itoa
def Nums (l : List Int) : Prop := ∀ x ∈ l, Num x
theorem nums_len {l : List Int} (h : Nums l) : ∀ p ∈ nums_ l, p.length ≤ 21 := by
 intro p hp
 obtain ⟨x, hx, rfl⟩ := List.mem_map.1 hp
 exact itoa_len x (h x hx).1 (h x hx).2
theorem nums_ne (l : List Int) : ∀ p ∈ nums_ l, p ≠ [] := by
 intro p hp
 obtain ⟨x, hx, rfl⟩ := List.mem_map.1 hp
 exact itoa_some x
theorem take_len {B : Nat} {ps : List (List UInt8)} (h : ∀ p ∈ ps, p.length ≤ B) (i : Nat) (hB : B ≤ 1000) (hi : i ≤ 2000000) : (jn (ps.take i)).length ≤ 2002000000 := by
 have h1 := jn_len (B := B) (ps.take i) (fun p hp => h p (List.mem_of_mem_take hp))
 have h2 : (ps.take i).length ≤ 2000000 := by rw [List.length_take]; omega
 have := Nat.mul_le_mul (show B + 1 ≤ 1001 by omega) h2
 omega
theorem last_txt {ps : List (List UInt8)} (h : ∀ p ∈ ps, p ≠ []) : (if (bs (jn ps)).toList = ([] : List UInt8) then (some (⟨#[45]⟩ : ByteArray)) else (some (bs (jn ps)))) = some (txt ps) := by
 unfold txt
 rw [bs_toList]
 by_cases hp : ps = []
 ·subst hp
  rfl
 ·rw [if_neg (jn_ne ps hp h), if_neg hp]
theorem fnS_go (l : List Int) (hn : Nums l) (hl : l.length ≤ 1048576) : ∀ (d i : Nat), i + d = l.length →
  Ev (fun k => spec_FormatNumbers.l0 k (bs (jn ((nums_ l).take i))) l (l.length : Int) (i : Int)) (txt (nums_ l))
 | 0, i, hi => by
  refine Ev.step (fun k => spec_FormatNumbers.l0.eq_2 (k := k) ..) ?_
  simp only [if_neg (show ¬ ((i : Int) < (l.length : Int)) by omega)]
  rw [List.take_of_length_le (by unfold nums_; rw [List.length_map]; omega)]
  simp only [last_txt (nums_ne l)]
  exact Ev.now _
 | d + 1, i, hi => by
  have hlt : i < l.length := by omega
  have hnl : (nums_ l).length = l.length := List.length_map ..
  have hx := hn _ (List.getElem_mem hlt)
  have ih := fnS_go l hn hl d (i + 1) (by omega)
  rw [jn_take (by omega)] at ih
  have hg : (nums_ l)[i]'(by omega) = Lib.itoa l[i] := List.getElem_map ..
  rw [hg] at ih
  have hlen := take_len (nums_len hn) i (by omega) (by omega)
  have hit := itoa_len l[i] hx.1 hx.2
  refine Ev.step (fun k => spec_FormatNumbers.l0.eq_2 (k := k) ..) ?_
  simp only [if_pos (show ((i : Int) < (l.length : Int)) by omega), if_pos (show (0 : Int) ≤ (i : Int) by omega), rd_at hlt, wrap_up (show i ≤ 1000000000 by omega)]
  by_cases h0 : i = 0
  ·subst h0
   simp only [if_neg (show ¬ (((0 : Nat) : Int) > 0) by omega)]
   refine Ev.bind (dec_ev _ hx.1 hx.2) ?_
   simp only [bs_size, bs_append, if_pos (show (jn ((nums_ l).take 0)).length + (Lib.itoa l[0]).length ≤ 9223372036854775807 by omega)]
   simpa [jn, Lib.join_nil] using ih
  ·simp only [if_pos (show ((i : Int) > 0) by omega)]
   rw [if_neg h0] at ih
   rw [show (⟨#[32]⟩ : ByteArray) = bs [32] from rfl]
   simp only [bs_size, bs_append, if_pos (show (jn ((nums_ l).take i)).length + 1 ≤ 9223372036854775807 by omega)]
   refine Ev.bind (dec_ev _ hx.1 hx.2) ?_
   simp only [bs_size, bs_append, List.length_append, List.length_singleton, if_pos (show (jn ((nums_ l).take i)).length + 1 + (Lib.itoa l[i]).length ≤ 9223372036854775807 by omega)]
   exact ih
theorem fnI_go (l : List Int) (hn : Nums l) (hl : l.length ≤ 1048576) : ∀ (d i : Nat), i + d = l.length →
  Ev (fun k => impl_FormatNumbers.l0 k (((nums_ l).take i).map bs) l (l.length : Int) (i : Int)) (txt (nums_ l))
 | 0, i, hi => by
  have hnl : (nums_ l).length = l.length := List.length_map ..
  refine Ev.step (fun k => impl_FormatNumbers.l0.eq_2 (k := k) ..) ?_
  simp only [if_neg (show ¬ ((i : Int) < (l.length : Int)) by omega)]
  rw [List.take_of_length_le (by omega), spaced_txt (nums_ l) (nums_len hn) (by omega) (by omega)]
  exact Ev.now _
 | d + 1, i, hi => by
  have hlt : i < l.length := by omega
  have hnl : (nums_ l).length = l.length := List.length_map ..
  have hx := hn _ (List.getElem_mem hlt)
  have ih := fnI_go l hn hl d (i + 1) (by omega)
  rw [List.take_succ_eq_append_getElem (by omega)] at ih
  have hg : (nums_ l)[i]'(by omega) = Lib.itoa l[i] := List.getElem_map ..
  rw [hg, List.map_append] at ih
  refine Ev.step (fun k => impl_FormatNumbers.l0.eq_2 (k := k) ..) ?_
  simp only [if_pos (show ((i : Int) < (l.length : Int)) by omega), if_pos (show (0 : Int) ≤ (i : Int) by omega), rd_at hlt, wrap_up (show i ≤ 1000000000 by omega), itoa_f _ hx.1 hx.2, Option.bind_some, List.length_map, List.length_take, if_pos (show min i (nums_ l).length < 8796093022208 by omega)]
  exact ih
theorem fnS_ev (l : List Int) (hn : Nums l) (hl : l.length ≤ 1048576) : Ev (fun k => spec_FormatNumbers.f k l) (txt (nums_ l)) := by
 have := fnS_go l hn hl l.length 0 (Nat.zero_add _)
 rw [List.take_zero] at this
 exact this
theorem fnI_ev (l : List Int) (hn : Nums l) (hl : l.length ≤ 1048576) : Ev (fun k => impl_FormatNumbers.f k l) (txt (nums_ l)) := by
 have := fnI_go l hn hl l.length 0 (Nat.zero_add _)
 rw [List.take_zero] at this
 exact this
theorem Ev.pos {α : Type} {c : Prop} [Decidable c] {f g : Nat → Option α} {r : α} (h : c) (k : Ev f r) : Ev (fun n => if c then f n else g n) r := by
 simpa only [if_pos h] using k
def el (x : S42) : List UInt8 := Lib.itoa x.f0 ++ [47] ++ Lib.itoa x.f1 ++ [47] ++ Lib.itoa x.f2
def els (l : List S42) : List (List UInt8) := l.map el
def Lifes (l : List S42) : Prop := ∀ x ∈ l, Num x.f0 ∧ Num x.f1 ∧ Num x.f2
theorem els_len {l : List S42} (h : Lifes l) : ∀ p ∈ els l, p.length ≤ 65 := by
 intro p hp
 obtain ⟨x, hx, rfl⟩ := List.mem_map.1 hp
 obtain ⟨h0, h1, h2⟩ := h x hx
 have := itoa_len _ h0.1 h0.2
 have := itoa_len _ h1.1 h1.2
 have := itoa_len _ h2.1 h2.2
 unfold el
 simp only [List.length_append, List.length_singleton]
 omega
theorem els_ne (l : List S42) : ∀ p ∈ els l, p ≠ [] := by
 intro p hp
 obtain ⟨x, hx, rfl⟩ := List.mem_map.1 hp
 unfold el
 simp
theorem flS_go (l : List S42) (hn : Lifes l) (hl : l.length ≤ 1048576) : ∀ (d i : Nat), i + d = l.length →
  Ev (fun k => spec_FormatLives.l0 k (bs (jn ((els l).take i))) l (l.length : Int) (i : Int)) (txt (els l))
 | 0, i, hi => by
  refine Ev.step (fun k => spec_FormatLives.l0.eq_2 (k := k) ..) ?_
  simp only [if_neg (show ¬ ((i : Int) < (l.length : Int)) by omega)]
  rw [List.take_of_length_le (by unfold els; rw [List.length_map]; omega)]
  simp only [last_txt (els_ne l)]
  exact Ev.now _
 | d + 1, i, hi => by
  have hlt : i < l.length := by omega
  have hnl : (els l).length = l.length := List.length_map ..
  obtain ⟨hx0, hx1, hx2⟩ := hn _ (List.getElem_mem hlt)
  have ih := flS_go l hn hl d (i + 1) (by omega)
  rw [jn_take (by omega)] at ih
  have hg : (els l)[i]'(by omega) = el l[i] := List.getElem_map ..
  rw [hg] at ih
  have hlen := take_len (els_len hn) i (by omega) (by omega)
  have h0 := itoa_len _ hx0.1 hx0.2
  have h1 := itoa_len _ hx1.1 hx1.2
  have h2 := itoa_len _ hx2.1 hx2.2
  refine Ev.step (fun k => spec_FormatLives.l0.eq_2 (k := k) ..) ?_
  simp only [if_pos (show ((i : Int) < (l.length : Int)) by omega), if_pos (show (0 : Int) ≤ (i : Int) by omega), rd48_at hlt, wrap_up (show i ≤ 1000000000 by omega), show (⟨#[32]⟩ : ByteArray) = bs [32] from rfl, show (⟨#[47]⟩ : ByteArray) = bs [47] from rfl, bs_append, bs_size]
  by_cases hz : i = 0
  ·subst hz
   simp only [if_neg (show ¬ (((0 : Nat) : Int) > 0) by omega)]
   refine Ev.bind (dec_ev _ hx0.1 hx0.2) ?_
   simp only [bs_append, bs_size]
   refine Ev.pos (by omega) (Ev.pos (by simp only [List.length_append]; omega) (Ev.bind (dec_ev _ hx1.1 hx1.2) ?_))
   simp only [bs_append, bs_size]
   refine Ev.pos (by simp only [List.length_append, List.length_singleton]; omega) (Ev.pos (by simp only [List.length_append, List.length_singleton]; omega) (Ev.bind (dec_ev _ hx2.1 hx2.2) ?_))
   simp only [bs_append, bs_size]
   refine Ev.pos (by simp only [List.length_append, List.length_singleton]; omega) ?_
   simpa [jn, Lib.join_nil, el] using ih
  ·simp only [if_pos (show ((i : Int) > 0) by omega)]
   rw [if_neg hz] at ih
   refine Ev.pos (by omega) (Ev.bind (dec_ev _ hx0.1 hx0.2) ?_)
   simp only [bs_append, bs_size]
   refine Ev.pos (by simp only [List.length_append, List.length_singleton]; omega) (Ev.pos (by simp only [List.length_append, List.length_singleton]; omega) (Ev.bind (dec_ev _ hx1.1 hx1.2) ?_))
   simp only [bs_append, bs_size]
   refine Ev.pos (by simp only [List.length_append, List.length_singleton]; omega) (Ev.pos (by simp only [List.length_append, List.length_singleton]; omega) (Ev.bind (dec_ev _ hx2.1 hx2.2) ?_))
   simp only [bs_append, bs_size]
   refine Ev.pos (by simp only [List.length_append, List.length_singleton]; omega) ?_
   simpa [el, List.append_assoc] using ih
theorem flI_go (l : List S42) (hn : Lifes l) (hl : l.length ≤ 1048576) : ∀ (d i : Nat), i + d = l.length →
  Ev (fun k => impl_FormatLives.l0 k (((els l).take i).map bs) l (l.length : Int) (i : Int)) (txt (els l))
 | 0, i, hi => by
  have hnl : (els l).length = l.length := List.length_map ..
  refine Ev.step (fun k => impl_FormatLives.l0.eq_2 (k := k) ..) ?_
  simp only [if_neg (show ¬ ((i : Int) < (l.length : Int)) by omega)]
  rw [List.take_of_length_le (by omega), spaced_txt (els l) (els_len hn) (by omega) (by omega)]
  exact Ev.now _
 | d + 1, i, hi => by
  have hlt : i < l.length := by omega
  have hnl : (els l).length = l.length := List.length_map ..
  obtain ⟨hx0, hx1, hx2⟩ := hn _ (List.getElem_mem hlt)
  have h0 := itoa_len _ hx0.1 hx0.2
  have h1 := itoa_len _ hx1.1 hx1.2
  have h2 := itoa_len _ hx2.1 hx2.2
  have ih := flI_go l hn hl d (i + 1) (by omega)
  rw [List.take_succ_eq_append_getElem (by omega)] at ih
  have hg : (els l)[i]'(by omega) = el l[i] := List.getElem_map ..
  rw [hg, List.map_append] at ih
  refine Ev.step (fun k => impl_FormatLives.l0.eq_2 (k := k) ..) ?_
  simp only [if_pos (show ((i : Int) < (l.length : Int)) by omega), if_pos (show (0 : Int) ≤ (i : Int) by omega), rd48_at hlt, wrap_up (show i ≤ 1000000000 by omega), itoa_f _ hx0.1 hx0.2, itoa_f _ hx1.1 hx1.2, itoa_f _ hx2.1 hx2.2, Option.bind_some, show (⟨#[47]⟩ : ByteArray) = bs [47] from rfl, bs_append, bs_size]
  refine Ev.pos (by omega) (Ev.pos (by simp only [List.length_append, List.length_singleton]; omega) (Ev.pos (by simp only [List.length_append, List.length_singleton]; omega) (Ev.pos (by simp only [List.length_append, List.length_singleton]; omega) (Ev.pos (by simp only [List.length_map, List.length_take]; omega) ?_))))
  exact ih
theorem flS_ev (l : List S42) (hn : Lifes l) (hl : l.length ≤ 1048576) : Ev (fun k => spec_FormatLives.f k l) (txt (els l)) := by
 have := flS_go l hn hl l.length 0 (Nat.zero_add _)
 rw [List.take_zero] at this
 exact this
theorem flI_ev (l : List S42) (hn : Lifes l) (hl : l.length ≤ 1048576) : Ev (fun k => impl_FormatLives.f k l) (txt (els l)) := by
 have := flI_go l hn hl l.length 0 (Nat.zero_add _)
 rw [List.take_zero] at this
 exact this
theorem jn_cons (p q : List UInt8) (r : List (List UInt8)) : jn (p :: q :: r) = p ++ [32] ++ jn (q :: r) := by
 unfold jn
 rw [Lib.join_cons, Lib.join_cons]
 simp [Lib.joinTail]
theorem cut_app : ∀ (p : List UInt8), (32 : UInt8) ∉ p → ∀ r : List UInt8, cutL (p ++ r) = pre p (cutL r)
 | [], _, r => by rw [List.nil_append, pre_nil]
 | c :: p, h, r => by
  have hc : ¬ c = 32 := fun e => h (by rw [e]; exact List.mem_cons_self)
  rw [List.cons_append, cutL, if_neg hc, cut_app p (fun e => h (List.mem_cons_of_mem _ e)) r, pre_pre]
  rfl
theorem cut_jn : ∀ ps : List (List UInt8), ps ≠ [] → (∀ p ∈ ps, (32 : UInt8) ∉ p) → cutL (jn ps) = ps
 | [], h, _ => absurd rfl h
 | [p], _, hp => by
  rw [jn_one]
  have := cut_app p (hp p (by simp)) []
  rw [List.append_nil] at this
  rw [this]
  simp [cutL, pre]
 | p :: q :: r, _, hp => by
  rw [jn_cons, List.append_assoc, cut_app p (hp p (by simp)), List.cons_append, List.nil_append, cutL, if_pos rfl, cut_jn (q :: r) (by simp) (fun x hx => hp x (List.mem_cons_of_mem _ hx))]
  simp [pre]
theorem digits_plain : ∀ (k u : Nat), u < k → ∀ c ∈ Lib.decDigits u, 48 ≤ c.toNat
 | 0, u, h, _, _ => by omega
 | k + 1, u, h, c, hc => by
  rw [Lib.decDigits] at hc
  split at hc
  ·rename_i hu
   have := List.mem_singleton.1 hc
   subst this
   rw [ofNat_digit hu]
   omega
  ·rcases List.mem_append.1 hc with hc | hc
   ·exact digits_plain k (u / 10) (by omega) c hc
   ·have := List.mem_singleton.1 hc
    subst this
    rw [ofNat_digit (by omega)]
    omega
theorem dec_inj {u v : Nat} (h : Lib.decDigits u = Lib.decDigits v) : u = v := by
 have h1 := val_dec u
 rw [h, val_dec v] at h1
 exact (Option.some.inj h1).symm
theorem itoa_cases (x : Int) : (∃ u : Nat, x = (u : Int) ∧ Lib.itoa x = Lib.decDigits u) ∨ (∃ u : Nat, 1 ≤ u ∧ x = -(u : Int) ∧ Lib.itoa x = 45 :: Lib.decDigits u) := by
 by_cases h : 0 ≤ x
 ·obtain ⟨u, rfl⟩ := Int.eq_ofNat_of_zero_le h
  exact .inl ⟨u, rfl, Lib.itoa_nonneg u⟩
 ·obtain ⟨u, hu⟩ := Int.eq_ofNat_of_zero_le (show 0 ≤ -x by omega)
  obtain rfl : x = -(u : Int) := by omega
  exact .inr ⟨u, by omega, rfl, Lib.itoa_neg u (by omega)⟩
theorem dec_head (u : Nat) : ∀ c ∈ Lib.decDigits u, 48 ≤ c.toNat := digits_plain (u + 1) u (by omega)
theorem dec_some (u : Nat) : Lib.decDigits u ≠ [] := by
 intro h
 have := val_dec u
 have h2 := itoa_some (u : Int)
 rw [Lib.itoa_nonneg] at h2
 exact h2 h
theorem itoa_inj {x y : Int} (h : Lib.itoa x = Lib.itoa y) : x = y := by
 rcases itoa_cases x with ⟨u, rfl, e⟩ | ⟨u, hu, rfl, e⟩ <;> rcases itoa_cases y with ⟨v, rfl, e'⟩ | ⟨v, hv, rfl, e'⟩ <;> rw [e, e'] at h
 ·rw [dec_inj h]
 ·have := dec_head u 45 (by rw [h]; exact List.mem_cons_self)
  exact absurd this (by decide)
 ·have := dec_head v 45 (by rw [← h]; exact List.mem_cons_self)
  exact absurd this (by decide)
 ·injection h with _ h
  rw [dec_inj h]
theorem itoa_plain (x : Int) : (32 : UInt8) ∉ Lib.itoa x := by
 intro h
 rcases itoa_cases x with ⟨u, rfl, e⟩ | ⟨u, hu, rfl, e⟩ <;> rw [e] at h
 ·exact absurd (dec_head u 32 h) (by decide)
 ·rcases List.mem_cons.1 h with h | h
  ·exact absurd h (by decide)
  ·exact absurd (dec_head u 32 h) (by decide)
theorem itoa_dash (x : Int) : Lib.itoa x ≠ [45] := by
 intro h
 rcases itoa_cases x with ⟨u, rfl, e⟩ | ⟨u, hu, rfl, e⟩ <;> rw [e] at h
 ·have := dec_head u 45 (by rw [h]; exact List.mem_cons_self)
  exact absurd this (by decide)
 ·injection h with _ h
  exact dec_some u h
theorem nums_inj : ∀ {l l' : List Int}, nums_ l = nums_ l' → l = l'
 | [], [], _ => rfl
 | [], _ :: _, h => by simp [nums_] at h
 | _ :: _, [], h => by simp [nums_] at h
 | x :: r, y :: r', h => by
  unfold nums_ at h
  rw [List.map_cons, List.map_cons] at h
  injection h with h1 h2
  rw [itoa_inj h1, nums_inj (l := r) (l' := r') h2]
theorem nums_plain (l : List Int) : ∀ p ∈ nums_ l, (32 : UInt8) ∉ p := by
 intro p hp
 obtain ⟨x, _, rfl⟩ := List.mem_map.1 hp
 exact itoa_plain x
theorem txt_cut (l : List Int) : cutL (txt (nums_ l)).data.toList = if l = [] then [[45]] else nums_ l := by
 unfold txt
 by_cases h : l = []
 ·subst h
  rfl
 ·have hne : nums_ l ≠ [] := by unfold nums_; simpa using h
  rw [if_neg hne, if_neg h]
  have : (bs (jn (nums_ l))).data.toList = jn (nums_ l) := bs_list _
  rw [this, cut_jn _ hne (nums_plain l)]
theorem txt_inj {l l' : List Int} : txt (nums_ l) = txt (nums_ l') ↔ l = l' := by
 refine ⟨fun h => ?_, fun h => by rw [h]⟩
 have h1 := txt_cut l
 rw [h, txt_cut l'] at h1
 have one : ∀ l : List Int, nums_ l ≠ [[45]] := by
  intro l hl
  cases l with
  | nil => simp [nums_] at hl
  | cons x r =>
   unfold nums_ at hl
   rw [List.map_cons] at hl
   injection hl with hl _
   exact itoa_dash x hl
 by_cases e : l = [] <;> by_cases e' : l' = []
 ·rw [e, e']
 ·rw [if_pos e, if_neg e'] at h1
  exact absurd h1 (one l')
 ·rw [if_neg e, if_pos e'] at h1
  exact absurd h1.symm (one l)
 ·rw [if_neg e, if_neg e'] at h1
  exact (nums_inj h1).symm
theorem elSame_go (a b : List Int) (hx : a.length ≤ 1000000) (m : Nat) (hm : m = min a.length b.length) : ∀ (d i : Nat), i + d = m → a.take i = b.take i → Ev (fun k => laws_elSame.l0 k a b (m : Int) (i : Int)) (decide (a = b))
 | 0, i, hi, ht => by
  refine Ev.step (fun k => laws_elSame.l0.eq_2 (k := k) ..) ?_
  simp only [if_neg (show ¬ ((i : Int) < (m : Int)) by omega)]
  have e : ((a.length : Int) == (b.length : Int)) = decide (a = b) := by
   rw [Bool.eq_iff_iff, beq_iff_eq, decide_eq_true_iff]
   refine ⟨fun h => ?_, fun h => by rw [h]⟩
   rw [List.take_of_length_le (by omega), List.take_of_length_le (by omega)] at ht
   exact ht
  rw [e]
  exact Ev.now _
 | d + 1, i, hi, ht => by
  have ha : i < a.length := by omega
  have hb : i < b.length := by omega
  refine Ev.step (fun k => laws_elSame.l0.eq_2 (k := k) ..) ?_
  simp only [if_pos (show ((i : Int) < (m : Int)) by omega), if_pos (show (0 : Int) ≤ (i : Int) by omega), if_pos (show (i : Int) < (a.length : Int) by omega), if_pos (show (i : Int) < (b.length : Int) by omega), rd_at ha, rd_at hb, wrap_up (show i ≤ 1000000000 by omega)]
  by_cases h : a[i] = b[i]
  ·simp only [if_pos h]
   exact elSame_go a b hx m hm d (i + 1) (by omega) (by rw [List.take_succ_eq_append_getElem ha, List.take_succ_eq_append_getElem hb, ht, h])
  ·simp only [if_neg h]
   rw [decide_eq_false (fun e => h (by subst e; rfl))]
   exact Ev.now _
theorem elSame_ev (a b : List Int) (hx : a.length ≤ 1000000) : Ev (fun k => laws_elSame.f k a b) (decide (a = b)) := by
 unfold laws_elSame.f
 have : mn (a.length : Int) (b.length : Int) = ((min a.length b.length : Nat) : Int) := by unfold mn; split <;> omega
 rw [this]
 exact elSame_go a b hx _ rfl _ 0 (Nat.zero_add _) rfl
def DrawnN (w : World) (e : Ending) (w' : World) : Prop :=
 ∃ (A : Option Addr) (c : Nat) (l : List Int), l.length ≤ 4 ∧ Nums l ∧ e = .returned (.slice A l.length c) ∧ l.length ≤ c ∧ Kd.C (Kd.int .i64) w' A l.length l ∧ Below w.heap.size w w'
def intv (ns : List Int) : List Value := ns.map (fun x => Value.int .i64 x)
theorem intv_at {ns : List Int} {k : Nat} (h : k < ns.length) : (intv ns)[k]? = some (.int .i64 (ns[k]'h)) := by simp [intv, h]
theorem rowk_reads {w : World} {ok : Nat → Prop} {A : Option Addr} {c : Nat} {ns : List Int} (h : RowK w ok 3 1 (.slice A ns.length c) ns.length (intv ns)) : ns.length ≤ c ∧ Kd.C (Kd.int .i64) w A ns.length ns := by
 refine ⟨?_, rfl, ?_, fun h0 => ?_⟩
 ·rcases h.row.2 with ⟨hv, hn⟩ | ⟨g, cap, cur, hv, _, _, h2, _⟩
  ·rw [hn]; exact Nat.zero_le _
  ·injection hv with _ _ hv
   subst hv
   exact h2
 ·rcases h.row.2 with ⟨hv, hn⟩ | ⟨g, cap, cur, hv, _, _, h2, h3, _⟩
  ·rw [hn]; exact Nat.zero_le _
  ·have : ns.length ≤ maxLen := by omega
   simpa [maxLen] using this
 ·obtain ⟨g, rfl, _, _⟩ := h.at (k := 0) (q := 0) h0 (by omega)
  refine ⟨_, rfl, fun j p hj => ⟨[.int .i64 p], rfl, rfl, fun i u hu => ?_⟩⟩
  obtain ⟨hjl, hjp⟩ := List.getElem?_eq_some_iff.1 hj
  obtain ⟨g', e', _, hc⟩ := h.at (k := j) (q := 0) hjl (by omega)
  injection e' with e'; injection e' with e'; subst e'
  cases i with
  | zero =>
   simp only [List.getElem?_cons_zero, Option.some.injEq] at hu
   subst hu
   show w.cell? ((⟨g, 0, none⟩ : Addr).add (j * 1 + 0)) = _
   rw [add_plain, hc, show j * 1 + 0 = j by omega, intv_at hjl, hjp]
  | succ i => simp at hu
theorem seven_num (j : Nat) (h : j < 7) : Num (([0, 1, -1, 12, 3, -9223372036854775808, 255] : List Int).getD j 0) := by
 rcases (show j = 0 ∨ j = 1 ∨ j = 2 ∨ j = 3 ∨ j = 4 ∨ j = 5 ∨ j = 6 by omega) with rfl | rfl | rfl | rfl | rfl | rfl | rfl <;> exact ⟨by decide, by decide⟩
def FtRel (W : World) (c : Nat) (v : Value) (n : Nat) (xs : Nat → Int) (q0 m : Nat) (o i : Value) (wr : World) : Prop :=
 ∃ (k q' : Nat) (ns : List Int), k ≤ m ∧ i = .int .i64 (k : Int) ∧ q0 ≤ q' ∧ q' ≤ q0 + k ∧ DRd wr c v n xs q' ∧ W.grownBy wr (some c) ∧ RowK wr (fun j => W.heap.size ≤ j) 3 1 o ns.length (intv ns) ∧ ns.length ≤ k ∧ Nums ns
set_option maxHeartbeats 4000000 in
set_option maxRecDepth 100000 in
theorem drawNums_any (w : World) (v : Value) (n : Nat) (xs : Nat → Int) (hv : BArg w v n xs) (hn : n ≤ 1048576) : Calls Tryd.prog 4 #[v] w (DrawnN w) := by
 go_enter Tryd.func4, Tryd.ntmps4
 go_wp2_with fail
 refine (open_any w v n xs hn hv).mono ?_
 rintro e wc ⟨v1, n1, rfl, hd1, hb1⟩
 have HBc := Lib.hid hb1
 have HDc := Lib.hid hd1
 have hltc := HDc.out.lt
 clear hb1 hd1
 go_wp2_with fail
 have hd0 : DRd (wc.alloc (.cells #[] 3)) w.heap.size v1 n1 xs 0 := HDc.out.grown (World.grownBy_alloc wc _ none) (by simp)
 have hr0 : RowK (wc.alloc (.cells #[] 3)) (fun j => wc.heap.size ≤ j) 3 1 (.slice (some ⟨wc.heap.size, 0, none⟩) 0 0) 0 [] := RowK.made _ (Nat.le_refl _)
 refine (pick_any _ w.heap.size v1 n1 xs 0 5 hd0 (by omega) (by omega) (by omega)).mono ?_
 rintro e w5 ⟨m, hm, rfl, hd5, hg5⟩
 have hm5 : m < 5 := by omega
 have HD5 := Lib.hid hd5
 have HG5 := Lib.hid (World.grownBy.trans (World.grownBy_alloc wc (.cells #[] 3) (some w.heap.size)) hg5)
 have HR5 := Lib.hid (hr0.keep (w' := w5) (fun j hj hlt => hg5.block j hlt (fun e => by have := hr0.let_ j hj; have := Option.some.inj e; omega)))
 clear hd5 hg5 hd0 hr0 hm
 go_wp2_with fail
 go_loopw [4, 10] (fun o i wr => FtRel wc w.heap.size v1 n1 xs 1 m o i wr) (fun _ i _ => m - (intOf i).toNat)
 case atStart => exact ⟨0, 1, [], Nat.zero_le _, rfl, Nat.le_refl _, Nat.le_refl _, HD5.out, HG5.out, HR5.out, Nat.le_refl _, fun x hx => by cases hx⟩
 case round =>
  obtain ⟨k, q5, ns, hk, rfl, hq5, hq6, hd, hg, hr, hnl, hns⟩ := hrel
  obtain ⟨B, cB, rfl⟩ := hr.form
  have HDr := Lib.hid hd
  have HGr := Lib.hid hg
  have HRr := Lib.hid hr
  have HNS := Lib.hid hns
  clear hd hg hr hns
  by_cases hlt : k < m
  ·go_wp2_with fail
   refine (num_any _ w.heap.size v1 n1 xs q5 wr.heap.size 7 7 (fun i => ([0, 1, -1, 12, 3, -9223372036854775808, 255] : List Int).getD i 0) (HDr.out.grown (World.grownBy_alloc wr (.cells #[.int .i64 0, .int .i64 1, .int .i64 (-1), .int .i64 12, .int .i64 3, .int .i64 (-9223372036854775808), .int .i64 255] 3) none) (by simp)) (by omega) (by omega) (by omega) (ISl_alloc wr [0, 1, -1, 12, 3, -9223372036854775808, 255] 3) (Nat.ne_of_gt HDr.out.lt)).mono ?_
   rintro e w6 ⟨j, hj, rfl, hd6, hg6⟩
   have hs := seven_num j hj
   have hg7 : wr.grownBy w6 (some w.heap.size) := World.grownBy.trans (World.grownBy_alloc wr (.cells #[.int .i64 0, .int .i64 1, .int .i64 (-1), .int .i64 12, .int .i64 3, .int .i64 (-9223372036854775808), .int .i64 255] 3) (some w.heap.size)) hg6
   generalize ([0, 1, -1, 12, 3, -9223372036854775808, 255] : List Int).getD j 0 = y at *
   have HY := Lib.hid hs
   have HD6 := Lib.hid hd6
   have HG6 := Lib.hid (World.grownBy.trans HGr.out hg7)
   have HR6 := Lib.hid (HRr.out.keep (w' := w6) (fun j hj hlt => hg7.block j hlt (fun e => by have := HRr.out.let_ j hj; have := Option.some.inj e; omega)))
   clear hd6 hg6 hg7 hj hs
   go_wp2_with (at_builtin; refine wpList_appk rfl _ _ 23 3 1 8 (.int .i64 0) rfl Tryd.underlying23 info3 rfl (by decide) (by decide) (.slice B ns.length cB) ns.length (intv ns) #[.int .i64 y] rfl rfl rfl (by intro u hu; simp at hu; subst hu; rfl) HR6.out (by omega) ?_)
   intro v7 w7 ho7 hg7
   obtain ⟨B7, c7, rfl⟩ := ho7.form
   have HR7 := Lib.hid (show RowK w7 (fun j => wc.heap.size ≤ j) 3 1 (.slice B7 (ns.length + 1) c7) (ns ++ [y]).length (intv (ns ++ [y])) from by
    have h := ho7.mono (ok' := fun j => wc.heap.size ≤ j) (fun j hj => by
     rcases hj with hj | hj
     ·exact HR6.out.let_ j hj
     ·have := HG6.out.size; omega)
    simpa [intv] using h)
   have hdr := DRd.row HDc.out HG6.out HD6.out hg7 (fun j hj => HR6.out.let_ j hj)
   have HD7 := Lib.hid hdr.1
   have HG7 := Lib.hid hdr.2
   clear ho7 hg7 hdr
   go_wp2_with fail
   go_roundw
   case rel =>
    refine ⟨k + 1, q5 + 1, ns ++ [y], hlt, by go_num, by omega, by omega, HD7.out, HG7.out, HR7.out, by simp; omega, ?_⟩
    intro z hz
    rcases List.mem_append.1 hz with hz | hz
    ·exact HNS.out z hz
    ·simp at hz; subst hz; exact HY.out
   case measure => simp [intOf]; omega
  ·obtain rfl : k = m := by omega
   go_wp2_with fail
   go_ret
   have hrd := rowk_reads HRr.out
   exact ⟨B, cB, ns, by omega, HNS.out, rfl, hrd.1, hrd.2, below_new HBc.out HGr.out⟩
def DrawnL (w : World) (e : Ending) (w' : World) : Prop :=
 ∃ (A : Option Addr) (c : Nat) (l : List S42), l.length ≤ 600 ∧ Lifes l ∧ e = .returned (.slice A l.length c) ∧ l.length ≤ c ∧ Kd.C k42 w' A l.length l ∧ Below w.heap.size w w'
theorem lives_small (t : ByteArray) (hs : t.size ≤ 1048576) : ∃ (k : Nat) (l : List S42) (ok : Bool), spec_LivesOf.f k t = some (l, ok) ∧ l.length ≤ 600 ∧ Lifes l := by
 obtain ⟨k, hk⟩ := Ev.rounds (ofLives_ev t hs)
 have hl := ofLives_len t
 obtain ⟨m, l, g, hm, hl6⟩ := told_good t
 by_cases hok : (toldOf t).2.2 = true
 ·rw [if_pos hok] at hk hl
  refine ⟨k, _, _, hk, hl, fun x hx => ?_⟩
  obtain ⟨j, hj⟩ := List.mem_iff_getElem?.1 hx
  have K := g.life j x hj
  have := K.born
  have := K.used
  have := K.un
  have := K.dn
  have := K.d1
  exact ⟨⟨by omega, by omega⟩, ⟨by omega, by omega⟩, ⟨by omega, by omega⟩⟩
 ·rw [if_neg hok] at hk hl
  exact ⟨k, _, _, hk, hl, fun x hx => by cases hx⟩
set_option maxHeartbeats 1000000 in
theorem drawLives_any (w : World) (v : Value) (n : Nat) (xs : Nat → Int) (hv : BArg w v n xs) (hn : n ≤ 1048576) : Calls Tryd.prog 5 #[v] w (DrawnL w) := by
 go_enter Tryd.func5, Tryd.ntmps5
 go_wp2_with fail
 refine (open_any w v n xs hn hv).mono ?_
 rintro e w1 ⟨v1, n1, rfl, hd1, hb1⟩
 have HB1 := Lib.hid hb1
 have HD1 := Lib.hid hd1
 clear hb1 hd1
 go_wp2_with fail
 refine (goodev_any w1 w.heap.size v1 n1 xs 0 HD1.out (by omega)).mono ?_
 rintro e w2 ⟨t, q, h1, h2, h3, h4, rfl, hd2, hg2⟩
 have HB2 := Lib.hid (below_new HB1.out hg2)
 clear hd2 hg2
 obtain ⟨k, l, ok, hk, hl, hlf⟩ := lives_small t (by omega)
 have HK := Lib.hid hk
 have HLF := Lib.hid hlf
 clear hk hlf
 go_wp2_with fail
 refine (spec_LivesOf.calls k t l ok w2 HK.out).mono ?_
 rintro e w3 ⟨v3, rfl, hr3, hb3⟩
 obtain ⟨A3, c3, rfl⟩ := Kd.R_slice hr3
 have HR3 := Lib.hid (Kd.R_reads' hr3)
 have HB3 := Lib.hid (bS HB2.out hb3)
 clear hr3 hb3
 go_wp2_with fail
 go_ret
 exact ⟨A3, c3, l, hl, HLF.out, rfl, HR3.out.2.1, HR3.out.2.2, HB3.out⟩
theorem same_text (l l' : List Int) : ((txt (nums_ l)).toList == (txt (nums_ l')).toList) = decide (l = l') := by
 rw [Bool.eq_iff_iff, beq_iff_eq, decide_eq_true_iff, ← txt_inj, Lib.toList_data, Lib.toList_data]
 exact ⟨fun h => ByteArray.ext (Array.ext' h), fun h => by rw [h]⟩
set_option maxHeartbeats 8000000 in
set_option maxRecDepth 100000 in
theorem laws_FnNumbers.calls (w : World) (v : Value) (n : Nat) (xs : Nat → Int) (hv : BArg w v n xs) (hn : n ≤ 1048576) (v1 : Value) (n1 : Nat) (xs1 : Nat → Int) (hv1 : BArg w v1 n1 xs1) (hn1 : n1 ≤ 1048576) (hLd : LaidT w) :
  Calls Tryd.prog 3 #[v, v1] w fun e w' => e = .returned (.bool true) ∧ Below w.heap.size w w' := by
 have HLd := Lib.hid hLd
 clear hLd
 obtain ⟨A0, c0, rfl⟩ : ∃ A c, v = .slice A n c := by
  rcases hv with ⟨rfl, rfl⟩ | ⟨a, cap, rfl, _⟩
  ·exact ⟨none, 0, rfl⟩
  ·exact ⟨some a, cap, rfl⟩
 obtain ⟨A1, c1, rfl⟩ : ∃ A c, v1 = .slice A n1 c := by
  rcases hv1 with ⟨rfl, rfl⟩ | ⟨a, cap, rfl, _⟩
  ·exact ⟨none, 0, rfl⟩
  ·exact ⟨some a, cap, rfl⟩
 have HV := Lib.hid hv
 have HV1 := Lib.hid hv1
 have hnb : decide ((1048576 : Int) < (n : Int)) = false := by simp; omega
 have hnb1 : decide ((1048576 : Int) < (n1 : Int)) = false := by simp; omega
 clear hv hv1
 go_enter Tryd.func3, Tryd.ntmps3
 go_wp2_with fail
 refine (drawNums_any w _ n xs HV.out hn).mono ?_
 rintro e w1 ⟨A5, c5, l, hl4, hln, rfl, hc5, hC5, hb1⟩
 have HB1 := Lib.hid hb1
 have HN := Lib.hid hln
 have HA1 := Lib.hid hC5
 have HC5 := Lib.hid hc5
 clear hb1 hln hC5 hc5 hnb hnb1
 go_wp2_with fail
 refine (drawNums_any w1 _ n1 xs1 (HV1.out.below HB1.out) hn1).mono ?_
 rintro e w2 ⟨A6, c6, l', hl4', hln', rfl, hc6, hC6, hb2⟩
 have HN' := Lib.hid hln'
 have HA2 := Lib.hid (Kd.C_below HA1.out hb2)
 have HO2 := Lib.hid hC6
 have HC6 := Lib.hid hc6
 have HB2 := Lib.hid (bS HB1.out hb2)
 clear hb2 hln' hC6 hc6 HA1
 go_wp2_with fail
 refine (drawLives_any w2 _ n xs (HV.out.below HB2.out) hn).mono ?_
 rintro e w3 ⟨A7, c7, L, hL6, hLf, rfl, hc7, hC7, hb3⟩
 have HLF := Lib.hid hLf
 have HA3 := Lib.hid (Kd.C_below HA2.out hb3)
 have HO3 := Lib.hid (Kd.C_below HO2.out hb3)
 have HL3 := Lib.hid hC7
 have HC7 := Lib.hid hc7
 have HB3 := Lib.hid (bS HB2.out hb3)
 clear hb3 hLf hC7 hc7 HA2 HO2
 obtain ⟨k1, e1⟩ := Ev.rounds (fnI_ev l HN.out (by omega))
 obtain ⟨k2, e2⟩ := Ev.rounds (fnS_ev l HN.out (by omega))
 obtain ⟨k3, e3⟩ := Ev.rounds (fnI_ev l' HN'.out (by omega))
 obtain ⟨k4, e4⟩ := Ev.rounds (elSame_ev l l' (by omega))
 obtain ⟨k5, e5⟩ := Ev.rounds (flI_ev L HLF.out (by omega))
 obtain ⟨k6, e6⟩ := Ev.rounds (flS_ev L HLF.out (by omega))
 have hst := same_text l l'
 have E1 := Lib.hid e1
 have E2 := Lib.hid e2
 have E3 := Lib.hid e3
 have E5 := Lib.hid e5
 have E6 := Lib.hid e6
 clear e1 e2 e3 e5 e6
 generalize txt (nums_ l) = s at *
 generalize txt (nums_ l') = s' at *
 generalize txt (els L) = u at *
 generalize decide (l = l') = b at *
 have E4 := Lib.hid e4
 have HST := Lib.hid hst
 clear e4 hst HN HN' HLF HV HV1
 have hss : (s.toList == s.toList) = true := beq_self_eq_true _
 have huu : (u.toList == u.toList) = true := beq_self_eq_true _
 go_wp2_with fail
 refine (impl_FormatNumbers.calls k1 A5 c5 l s _ HA3.out HC5.out (HLd.out.below HB3.out) E1.out).mono ?_
 rintro e w4 ⟨rfl, hb4⟩
 have HA4 := Lib.hid (Kd.C_below HA3.out hb4)
 have HO4 := Lib.hid (Kd.C_below HO3.out hb4)
 have HL4 := Lib.hid (Kd.C_below HL3.out hb4)
 have HB4 := Lib.hid (bS HB3.out hb4)
 clear hb4 HA3 HO3 HL3
 go_wp2_with fail
 refine (spec_FormatNumbers.calls k2 A5 c5 l s _ HA4.out HC5.out E2.out).mono ?_
 rintro e w5 ⟨rfl, hb5⟩
 have HA5 := Lib.hid (Kd.C_below HA4.out hb5)
 have HO5 := Lib.hid (Kd.C_below HO4.out hb5)
 have HL5 := Lib.hid (Kd.C_below HL4.out hb5)
 have HB5 := Lib.hid (bS HB4.out hb5)
 clear hb5 HA4 HO4 HL4
 go_wp2_with fail
 refine (impl_FormatNumbers.calls k1 A5 c5 l s _ HA5.out HC5.out (HLd.out.below HB5.out) E1.out).mono ?_
 rintro e w6 ⟨rfl, hb6⟩
 have HA6 := Lib.hid (Kd.C_below HA5.out hb6)
 have HO6 := Lib.hid (Kd.C_below HO5.out hb6)
 have HL6 := Lib.hid (Kd.C_below HL5.out hb6)
 have HB6 := Lib.hid (bS HB5.out hb6)
 clear hb6 HA5 HO5 HL5
 go_wp2_with fail
 refine (impl_FormatNumbers.calls k3 A6 c6 l' s' _ HO6.out HC6.out (HLd.out.below HB6.out) E3.out).mono ?_
 rintro e w7 ⟨rfl, hb7⟩
 have HA7 := Lib.hid (Kd.C_below HA6.out hb7)
 have HO7 := Lib.hid (Kd.C_below HO6.out hb7)
 have HL7 := Lib.hid (Kd.C_below HL6.out hb7)
 have HB7 := Lib.hid (bS HB6.out hb7)
 clear hb7 HA6 HO6 HL6
 go_wp2_with fail
 refine (laws_elSame.calls k4 A5 c5 l A6 c6 l' b _ HA7.out HC5.out HO7.out HC6.out E4.out).mono ?_
 rintro e w8 ⟨rfl, hb8⟩
 have HL8 := Lib.hid (Kd.C_below HL7.out hb8)
 have HB8 := Lib.hid (bS HB7.out hb8)
 clear hb8 HA7 HO7 HL7
 have hcmp : ((s.toList == s'.toList) == b) = true := by rw [HST.out]; exact beq_self_eq_true _
 go_wp2_with fail
 refine (impl_FormatLives.calls k5 A7 c7 L u _ HL8.out HC7.out (HLd.out.below HB8.out) E5.out).mono ?_
 rintro e w9 ⟨rfl, hb9⟩
 have HL9 := Lib.hid (Kd.C_below HL8.out hb9)
 have HB9 := Lib.hid (bS HB8.out hb9)
 clear hb9 HL8
 go_wp2_with fail
 refine (spec_FormatLives.calls k6 A7 c7 L u _ HL9.out HC7.out E6.out).mono ?_
 rintro e w10 ⟨rfl, hb10⟩
 have HB10 := Lib.hid (bS HB9.out hb10)
 clear hb10 HL9
 go_wp2_with fail
 go_ret
 exact ⟨rfl, HB10.out⟩
end Go.Proofs.YtojhdfdhfajjjaaDoor.Pr
