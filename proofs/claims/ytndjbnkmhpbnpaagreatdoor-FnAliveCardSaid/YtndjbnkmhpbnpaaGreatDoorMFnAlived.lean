/- MFnAlived: texts of this proof, joined. -/
import Derived.Test.YtndjbnkmhpbnpaaGreatDoorMFnAlivea
import Derived.Test.YtndjbnkmhpbnpaaGreatDoorMFnAliveb
import Derived.Test.YtndjbnkmhpbnpaaGreatDoorMFnAlivec
import Derived.Shelf.Strings.OnBuilder
import Derived.Shelf.LaysM
import Derived.Shelf.Strconv.Itoa3
import Derived.Shelf.LaysC
import Derived.Shelf.Strconv.AtoiAll
import Derived.Shelf.Strconv.ErrVarAll
import Derived.Shelf.Strings.SplitShaped
import Derived.Test.YtndjbnkmhpbnpaaGreatDoorProg
import Derived.Below
import Derived.Test.YtndjbnkmhpbnpaaGreatDoorRows
import Derived.ProofKit
import Derived.SizedLaws
import Derived.LaidMore
import Derived.Lay
import Derived.Stop.LaidErr
import Derived.Lib.LaidTab
import Derived.Maps.OwnOps
import Derived.Maps.OwnSet
import Derived.Maps.Views
import Derived.Lib.Hide
import Derived.Deep.RegionWith
import Derived.RegionTactic
import Derived.Handy
import Derived.Outline
import Derived.Deep.DeepCutAuto
import Derived.Deep.CutBlock
import Derived.Deep.QuietTactic
import Derived.BigQuiet
import Derived.BigCall
import Derived.BigRegion
import Derived.Lib.AppendIntMem
import Derived.Lib.AtoiBound
import Derived.Lib.SplitLaws
import Derived.Lib.IndexBytes
import Derived.Lib.Replace
import Derived.Lib.ItoaNum
import Derived.Lib.AtoiAllCases
import Derived.Maps.RangeWalk
namespace Go.Proofs
open Go.Shelf
def Tryz.laysM171_ren : Go.Shelf.Ren := ⟨fun | 171 => 52 | 243 => 76 | 246 => 92 | 283 => 109 | 284 => 110 | 285 => 111 | 286 => 112 | 129 => 125 | 317 => 124 | 318 => 126 | 319 => 127 | 320 => 128 | 337 => 140 | 338 => 141 | n => n, fun | 3 => 3 | 9 => 9 | 2 => 2 | 4 => 4 | 171 => 126 | 0 => 0 | 53 => 106 | 37 => 22 | 5 => 5 | 173 => 129 | 212 => 151 | 51 => 103 | 20 => 20 | 213 => 152 | 46 => 90 | 232 => 179 | 233 => 180 | n => n, fun | 17 => 2 | 18 => 6 | 19 => 7 | n => n⟩
theorem Tryz.laysM171 : Go.Proofs.LaysM.n171 Tryz.prog Tryz.laysM171_ren := {
 mixed := by kernel_rfl
 f129 := Tryz.func125.trans (congrArg some (by kernel_rfl))
 f171 := Tryz.func52.trans (congrArg some (by kernel_rfl))
 f243 := Tryz.func76.trans (congrArg some (by kernel_rfl))
 f246 := Tryz.func92.trans (congrArg some (by kernel_rfl))
 f283 := Tryz.func109.trans (congrArg some (by kernel_rfl))
 f284 := Tryz.func110.trans (congrArg some (by kernel_rfl))
 f285 := Tryz.func111.trans (congrArg some (by kernel_rfl))
 f286 := Tryz.func112.trans (congrArg some (by kernel_rfl))
 f317 := Tryz.func124.trans (congrArg some (by kernel_rfl))
 f318 := Tryz.func126.trans (congrArg some (by kernel_rfl))
 f319 := Tryz.func127.trans (congrArg some (by kernel_rfl))
 f320 := Tryz.func128.trans (congrArg some (by kernel_rfl))
 f337 := Tryz.func140.trans (congrArg some (by kernel_rfl))
 f338 := Tryz.func141.trans (congrArg some (by kernel_rfl))
 t0 := Tryz.underlying0
 a0 := Tryz.isAgg0
 z0 := Tryz.sizeOf0
 v0 := Tryz.zeroValue0
 t2 := Tryz.underlying2
 a2 := Tryz.isAgg2
 z2 := Tryz.sizeOf2
 v2 := Tryz.zeroValue2
 t3 := Tryz.underlying3
 a3 := Tryz.isAgg3
 z3 := Tryz.sizeOf3
 v3 := Tryz.zeroValue3
 t4 := Tryz.underlying4
 a4 := Tryz.isAgg4
 z4 := Tryz.sizeOf4
 v4 := Tryz.zeroValue4
 t5 := Tryz.underlying5
 a5 := Tryz.isAgg5
 z5 := Tryz.sizeOf5
 v5 := Tryz.zeroValue5
 t9 := Tryz.underlying9
 a9 := Tryz.isAgg9
 z9 := Tryz.sizeOf9
 v9 := Tryz.zeroValue9
 t20 := Tryz.underlying20
 a20 := Tryz.isAgg20
 z20 := Tryz.sizeOf20
 v20 := Tryz.zeroValue20
 t37 := Tryz.underlying22
 a37 := Tryz.isAgg22
 z37 := Tryz.sizeOf22
 v37 := Tryz.zeroValue22
 t46 := Tryz.underlying90
 a46 := Tryz.isAgg90
 z46 := Tryz.sizeOf90
 v46 := Tryz.zeroValue90
 t51 := Tryz.underlying103
 a51 := Tryz.isAgg103
 z51 := Tryz.sizeOf103
 v51 := Tryz.zeroValue103
 t53 := Tryz.underlying106
 a53 := Tryz.isAgg106
 z53 := Tryz.sizeOf106
 v53 := Tryz.zeroValue106
 t171 := Tryz.underlying126
 a171 := Tryz.isAgg126
 z171 := Tryz.sizeOf126
 v171 := Tryz.zeroValue126
 t173 := Tryz.underlying129
 a173 := Tryz.isAgg129
 z173 := Tryz.sizeOf129
 v173 := Tryz.zeroValue129
 t212 := Tryz.underlying151
 a212 := Tryz.isAgg151
 z212 := Tryz.sizeOf151
 v212 := Tryz.zeroValue151
 t213 := Tryz.underlying152
 a213 := Tryz.isAgg152
 z213 := Tryz.sizeOf152
 t232 := Tryz.underlying179
 a232 := Tryz.isAgg179
 z232 := Tryz.sizeOf179
 v232 := Tryz.zeroValue179
 t233 := Tryz.underlying180
 a233 := Tryz.isAgg180
 z233 := Tryz.sizeOf180
 v233 := Tryz.zeroValue180
 g17 := by kernel_rfl
 g18 := by kernel_rfl
 g19 := by kernel_rfl
 i0 := by kernel_rfl
 i2 := by kernel_rfl
 i3 := by kernel_rfl
 i4 := by kernel_rfl
 i5 := by kernel_rfl
 i9 := by kernel_rfl
 i20 := by kernel_rfl
 i37 := by kernel_rfl
 i46 := by kernel_rfl
 i51 := by kernel_rfl
 i53 := by kernel_rfl
 i171 := by kernel_rfl
 i173 := by kernel_rfl
 i212 := by kernel_rfl
 i232 := by kernel_rfl
 i233 := by kernel_rfl
 m17 := by kernel_rfl
 m18 := by kernel_rfl
 m19 := by kernel_rfl }
open Go.RowKit Go.Sort Go.Lib in
theorem Tryz.strconv_Itoa (n : Int) (h0 : -9223372036854775808 ≤ n) (h1 : n ≤ 9223372036854775807) (w : World) (htab : Lib.TabIs Tryz.prog w "internal/strconv.uint64pow10" .u64 Lib.pow10Tab) :
  Calls Tryz.prog 52 #[.int .i64 n] w fun e w' => e = .returned (.string ⟨(Lib.itoa n).toArray⟩) ∧ ∃ k os, w' = grow (w.drewN k) os := Any.strconv_Itoa Tryz.laysM171 n h0 h1 w htab
def Tryz.laysC172_ren : Go.Shelf.Ren := ⟨fun | 172 => 75 | 244 => 90 | 245 => 91 | 247 => 104 | 279 => 105 | 280 => 106 | 281 => 107 | 282 => 108 | 287 => 121 | 316 => 122 | 171 => 52 | 205 => 123 | 321 => 138 | 322 => 139 | 243 => 76 | 246 => 92 | 283 => 109 | 284 => 110 | 285 => 111 | 286 => 112 | 129 => 125 | 317 => 124 | 318 => 126 | 319 => 127 | 320 => 128 | 337 => 140 | 338 => 141 | n => n, fun | 9 => 9 | 3 => 3 | 75 => 81 | 76 => 82 | 4 => 4 | 5 => 5 | 167 => 120 | 37 => 22 | 0 => 0 | 85 => 121 | 2 => 2 | 168 => 123 | 53 => 106 | 175 => 144 | 46 => 90 | 210 => 148 | 127 => 109 | 145 => 165 | 143 => 163 | 21 => 21 | 171 => 126 | 173 => 129 | 212 => 151 | 51 => 103 | 20 => 20 | 213 => 152 | 232 => 179 | 233 => 180 | 80 => 97 | n => n, fun | 15 => 0 | 16 => 1 | 17 => 2 | 18 => 6 | 19 => 7 | n => n⟩
theorem Tryz.laysC172 : Go.Proofs.LaysC.n172 Tryz.prog Tryz.laysC172_ren := {
 mixed := by kernel_rfl
 f129 := Tryz.func125.trans (congrArg some (by kernel_rfl))
 f171 := Tryz.func52.trans (congrArg some (by kernel_rfl))
 f172 := Tryz.func75.trans (congrArg some (by kernel_rfl))
 f205 := Tryz.func123.trans (congrArg some (by kernel_rfl))
 f243 := Tryz.func76.trans (congrArg some (by kernel_rfl))
 f244 := Tryz.func90.trans (congrArg some (by kernel_rfl))
 f245 := Tryz.func91.trans (congrArg some (by kernel_rfl))
 f246 := Tryz.func92.trans (congrArg some (by kernel_rfl))
 f247 := Tryz.func104.trans (congrArg some (by kernel_rfl))
 f279 := Tryz.func105.trans (congrArg some (by kernel_rfl))
 f280 := Tryz.func106.trans (congrArg some (by kernel_rfl))
 f281 := Tryz.func107.trans (congrArg some (by kernel_rfl))
 f282 := Tryz.func108.trans (congrArg some (by kernel_rfl))
 f283 := Tryz.func109.trans (congrArg some (by kernel_rfl))
 f284 := Tryz.func110.trans (congrArg some (by kernel_rfl))
 f285 := Tryz.func111.trans (congrArg some (by kernel_rfl))
 f286 := Tryz.func112.trans (congrArg some (by kernel_rfl))
 f287 := Tryz.func121.trans (congrArg some (by kernel_rfl))
 f316 := Tryz.func122.trans (congrArg some (by kernel_rfl))
 f317 := Tryz.func124.trans (congrArg some (by kernel_rfl))
 f318 := Tryz.func126.trans (congrArg some (by kernel_rfl))
 f319 := Tryz.func127.trans (congrArg some (by kernel_rfl))
 f320 := Tryz.func128.trans (congrArg some (by kernel_rfl))
 f321 := Tryz.func138.trans (congrArg some (by kernel_rfl))
 f322 := Tryz.func139.trans (congrArg some (by kernel_rfl))
 f337 := Tryz.func140.trans (congrArg some (by kernel_rfl))
 f338 := Tryz.func141.trans (congrArg some (by kernel_rfl))
 t0 := Tryz.underlying0
 a0 := Tryz.isAgg0
 z0 := Tryz.sizeOf0
 v0 := Tryz.zeroValue0
 t2 := Tryz.underlying2
 a2 := Tryz.isAgg2
 z2 := Tryz.sizeOf2
 v2 := Tryz.zeroValue2
 t3 := Tryz.underlying3
 a3 := Tryz.isAgg3
 z3 := Tryz.sizeOf3
 v3 := Tryz.zeroValue3
 t4 := Tryz.underlying4
 a4 := Tryz.isAgg4
 z4 := Tryz.sizeOf4
 v4 := Tryz.zeroValue4
 t5 := Tryz.underlying5
 a5 := Tryz.isAgg5
 z5 := Tryz.sizeOf5
 v5 := Tryz.zeroValue5
 t9 := Tryz.underlying9
 a9 := Tryz.isAgg9
 z9 := Tryz.sizeOf9
 v9 := Tryz.zeroValue9
 t20 := Tryz.underlying20
 a20 := Tryz.isAgg20
 z20 := Tryz.sizeOf20
 v20 := Tryz.zeroValue20
 t21 := Tryz.underlying21
 a21 := Tryz.isAgg21
 z21 := Tryz.sizeOf21
 v21 := Tryz.zeroValue21
 t37 := Tryz.underlying22
 a37 := Tryz.isAgg22
 z37 := Tryz.sizeOf22
 v37 := Tryz.zeroValue22
 t46 := Tryz.underlying90
 a46 := Tryz.isAgg90
 z46 := Tryz.sizeOf90
 v46 := Tryz.zeroValue90
 t51 := Tryz.underlying103
 a51 := Tryz.isAgg103
 z51 := Tryz.sizeOf103
 v51 := Tryz.zeroValue103
 t53 := Tryz.underlying106
 a53 := Tryz.isAgg106
 z53 := Tryz.sizeOf106
 v53 := Tryz.zeroValue106
 t75 := Tryz.underlying81
 a75 := Tryz.isAgg81
 z75 := Tryz.sizeOf81
 v75 := Tryz.zeroValue81
 t76 := Tryz.underlying82
 a76 := Tryz.isAgg82
 z76 := Tryz.sizeOf82
 v76 := Tryz.zeroValue82
 t85 := Tryz.underlying121
 a85 := Tryz.isAgg121
 z85 := Tryz.sizeOf121
 v85 := Tryz.zeroValue121
 t127 := Tryz.underlying109
 a127 := Tryz.isAgg109
 z127 := Tryz.sizeOf109
 v127 := Tryz.zeroValue109
 t143 := Tryz.underlying163
 a143 := Tryz.isAgg163
 z143 := Tryz.sizeOf163
 v143 := Tryz.zeroValue163
 t145 := Tryz.underlying165
 a145 := Tryz.isAgg165
 z145 := Tryz.sizeOf165
 v145 := Tryz.zeroValue165
 t167 := Tryz.underlying120
 a167 := Tryz.isAgg120
 z167 := Tryz.sizeOf120
 v167 := Tryz.zeroValue120
 t168 := Tryz.underlying123
 a168 := Tryz.isAgg123
 z168 := Tryz.sizeOf123
 v168 := Tryz.zeroValue123
 t171 := Tryz.underlying126
 a171 := Tryz.isAgg126
 z171 := Tryz.sizeOf126
 v171 := Tryz.zeroValue126
 t173 := Tryz.underlying129
 a173 := Tryz.isAgg129
 z173 := Tryz.sizeOf129
 v173 := Tryz.zeroValue129
 t175 := Tryz.underlying144
 a175 := Tryz.isAgg144
 z175 := Tryz.sizeOf144
 v175 := Tryz.zeroValue144
 t210 := Tryz.underlying148
 a210 := Tryz.isAgg148
 z210 := Tryz.sizeOf148
 v210 := Tryz.zeroValue148
 t212 := Tryz.underlying151
 a212 := Tryz.isAgg151
 z212 := Tryz.sizeOf151
 v212 := Tryz.zeroValue151
 t213 := Tryz.underlying152
 a213 := Tryz.isAgg152
 z213 := Tryz.sizeOf152
 t232 := Tryz.underlying179
 a232 := Tryz.isAgg179
 z232 := Tryz.sizeOf179
 v232 := Tryz.zeroValue179
 t233 := Tryz.underlying180
 a233 := Tryz.isAgg180
 z233 := Tryz.sizeOf180
 v233 := Tryz.zeroValue180
 g15 := by kernel_rfl
 g16 := by kernel_rfl
 g17 := by kernel_rfl
 g18 := by kernel_rfl
 g19 := by kernel_rfl
 t80 := Tryz.underlying97
 a80 := Tryz.isAgg97
 z80 := Tryz.sizeOf97
 v80 := Tryz.zeroValue97
 i0 := by kernel_rfl
 i2 := by kernel_rfl
 i3 := by kernel_rfl
 i4 := by kernel_rfl
 i5 := by kernel_rfl
 i9 := by kernel_rfl
 i20 := by kernel_rfl
 i21 := by kernel_rfl
 i37 := by kernel_rfl
 i46 := by kernel_rfl
 i51 := by kernel_rfl
 i53 := by kernel_rfl
 i75 := by kernel_rfl
 i76 := by kernel_rfl
 i80 := by kernel_rfl
 i85 := by kernel_rfl
 i127 := by kernel_rfl
 i143 := by kernel_rfl
 i145 := by kernel_rfl
 i167 := by kernel_rfl
 i168 := by kernel_rfl
 i171 := by kernel_rfl
 i173 := by kernel_rfl
 i175 := by kernel_rfl
 i210 := by kernel_rfl
 i212 := by kernel_rfl
 i232 := by kernel_rfl
 i233 := by kernel_rfl
 m15 := by kernel_rfl
 m16 := by kernel_rfl
 m17 := by kernel_rfl
 m18 := by kernel_rfl
 m19 := by kernel_rfl
 c0 := by kernel_rfl
 c2 := by kernel_rfl
 c3 := by kernel_rfl
 c4 := by kernel_rfl
 c5 := by kernel_rfl
 c9 := by kernel_rfl
 c20 := by kernel_rfl
 c21 := by kernel_rfl
 c37 := by kernel_rfl
 c46 := by kernel_rfl
 c51 := by kernel_rfl
 c53 := by kernel_rfl
 c75 := by kernel_rfl
 c76 := by kernel_rfl
 c80 := by kernel_rfl
 c85 := by kernel_rfl
 c127 := by kernel_rfl
 c143 := by kernel_rfl
 c145 := by kernel_rfl
 c167 := by kernel_rfl
 c168 := by kernel_rfl
 c171 := by kernel_rfl
 c173 := by kernel_rfl
 c175 := by kernel_rfl
 c210 := by kernel_rfl
 c212 := by kernel_rfl
 c213 := by kernel_rfl
 c232 := by kernel_rfl
 c233 := by kernel_rfl }
open Go.RowKit in
theorem Tryz.strconv_Atoi_ok (s : ByteArray) (hmax : s.size ≤ 9223372036854775806) (v : Int) (h : Lib.atoiAll s.data.toList = .ok v) (w : World) :
  Calls Tryz.prog 75 #[.string s] w fun e w' => e = .returned (.tuple #[.int .i64 v, .nilIface]) ∧ (w' = w ∨ ∃ t, w' = Lib.bytesWorld w 5 t) := Any.strconv_Atoi_ok Tryz.laysC172 s hmax v h w
open Go.RowKit in
theorem Tryz.strconv_Atoi_syntax_var (s : ByteArray) (hlim : s.size ≤ 281474976710656) (h : Lib.atoiAll s.data.toList = .«syntax») (tp : TypeId) (p : Value) (w : World) (hvar : w.var? Tryz.prog "strconv.ErrSyntax" = some #[.iface tp p]) :
  Calls Tryz.prog 75 #[.string s] w fun e w' => ∃ N, e = .returned (.tuple #[.int .i64 0, .iface 123 (.pointer (some ⟨N, 0, none⟩))]) ∧ w.heap.size ≤ N ∧ w'.heap[N]? = some (.cells #[.string ⟨#[65, 116, 111, 105]⟩, .string s, .iface tp p] 148 (0, 0)) ∧ Below w.heap.size w w' := Any.strconv_Atoi_syntax_var Tryz.laysC172 s hlim h tp p w hvar
open Go.RowKit in
theorem Tryz.strconv_Atoi_range_var (s : ByteArray) (hlim : s.size ≤ 281474976710656) (h : Lib.atoiAll s.data.toList = .range) (tp : TypeId) (p : Value) (w : World) (hvar : w.var? Tryz.prog "strconv.ErrRange" = some #[.iface tp p]) :
  Calls Tryz.prog 75 #[.string s] w fun e w' => ∃ N, e = .returned (.tuple #[.int .i64 (Lib.atoiSat s.data.toList), .iface 123 (.pointer (some ⟨N, 0, none⟩))]) ∧ w.heap.size ≤ N ∧ w'.heap[N]? = some (.cells #[.string ⟨#[65, 116, 111, 105]⟩, .string s, .iface tp p] 148 (0, 0)) ∧ Below w.heap.size w w' := Any.strconv_Atoi_range_var Tryz.laysC172 s hlim h tp p w hvar
def Tryz.laysM146_ren : Go.Shelf.Ren := ⟨fun | 146 => 74 | 221 => 89 | 268 => 101 | 138 => 102 | 143 => 103 | 195 => 117 | 197 => 118 | 218 => 119 | 219 => 120 | 260 => 133 | 217 => 134 | 225 => 135 | 224 => 136 | 267 => 137 | 266 => 152 | 314 => 153 | n => n, fun | 9 => 9 | 31 => 39 | 3 => 3 | 4 => 4 | 0 => 0 | 105 => 141 | 21 => 21 | 5 => 5 | 46 => 90 | 119 => 174 | 139 => 177 | 138 => 176 | 146 => 104 | 51 => 103 | n => n, fun | 1 => 3 | 3 => 4 | 4 => 5 | n => n⟩
theorem Tryz.laysM146 : Go.Proofs.LaysM.n146 Tryz.prog Tryz.laysM146_ren := {
 mixed := by kernel_rfl
 f138 := Tryz.func102.trans (congrArg some (by kernel_rfl))
 f143 := Tryz.func103.trans (congrArg some (by kernel_rfl))
 f146 := Tryz.func74.trans (congrArg some (by kernel_rfl))
 f195 := Tryz.func117.trans (congrArg some (by kernel_rfl))
 f197 := Tryz.func118.trans (congrArg some (by kernel_rfl))
 f217 := Tryz.func134.trans (congrArg some (by kernel_rfl))
 f218 := Tryz.func119.trans (congrArg some (by kernel_rfl))
 f219 := Tryz.func120.trans (congrArg some (by kernel_rfl))
 f221 := Tryz.func89.trans (congrArg some (by kernel_rfl))
 f224 := Tryz.func136.trans (congrArg some (by kernel_rfl))
 f225 := Tryz.func135.trans (congrArg some (by kernel_rfl))
 f260 := Tryz.func133.trans (congrArg some (by kernel_rfl))
 f266 := Tryz.func152.trans (congrArg some (by kernel_rfl))
 f267 := Tryz.func137.trans (congrArg some (by kernel_rfl))
 f268 := Tryz.func101.trans (congrArg some (by kernel_rfl))
 f314 := Tryz.func153.trans (congrArg some (by kernel_rfl))
 t0 := Tryz.underlying0
 a0 := Tryz.isAgg0
 z0 := Tryz.sizeOf0
 v0 := Tryz.zeroValue0
 t3 := Tryz.underlying3
 a3 := Tryz.isAgg3
 z3 := Tryz.sizeOf3
 v3 := Tryz.zeroValue3
 t4 := Tryz.underlying4
 a4 := Tryz.isAgg4
 z4 := Tryz.sizeOf4
 v4 := Tryz.zeroValue4
 t5 := Tryz.underlying5
 a5 := Tryz.isAgg5
 z5 := Tryz.sizeOf5
 v5 := Tryz.zeroValue5
 t9 := Tryz.underlying9
 a9 := Tryz.isAgg9
 z9 := Tryz.sizeOf9
 v9 := Tryz.zeroValue9
 t21 := Tryz.underlying21
 a21 := Tryz.isAgg21
 z21 := Tryz.sizeOf21
 v21 := Tryz.zeroValue21
 t31 := Tryz.underlying39
 a31 := Tryz.isAgg39
 z31 := Tryz.sizeOf39
 v31 := Tryz.zeroValue39
 t46 := Tryz.underlying90
 a46 := Tryz.isAgg90
 z46 := Tryz.sizeOf90
 v46 := Tryz.zeroValue90
 t51 := Tryz.underlying103
 a51 := Tryz.isAgg103
 z51 := Tryz.sizeOf103
 v51 := Tryz.zeroValue103
 t105 := Tryz.underlying141
 a105 := Tryz.isAgg141
 z105 := Tryz.sizeOf141
 v105 := Tryz.zeroValue141
 t119 := Tryz.underlying174
 a119 := Tryz.isAgg174
 z119 := Tryz.sizeOf174
 t138 := Tryz.underlying176
 a138 := Tryz.isAgg176
 z138 := Tryz.sizeOf176
 v138 := Tryz.zeroValue176
 t139 := Tryz.underlying177
 a139 := Tryz.isAgg177
 z139 := Tryz.sizeOf177
 v139 := Tryz.zeroValue177
 t146 := Tryz.underlying104
 a146 := Tryz.isAgg104
 z146 := Tryz.sizeOf104
 v146 := Tryz.zeroValue104
 g1 := by kernel_rfl
 g3 := by kernel_rfl
 g4 := by kernel_rfl
 i0 := by kernel_rfl
 i3 := by kernel_rfl
 i4 := by kernel_rfl
 i5 := by kernel_rfl
 i9 := by kernel_rfl
 i21 := by kernel_rfl
 i31 := by kernel_rfl
 i46 := by kernel_rfl
 i51 := by kernel_rfl
 i105 := by kernel_rfl
 i138 := by kernel_rfl
 i139 := by kernel_rfl
 i146 := by kernel_rfl
 m1 := by kernel_rfl
 s1_3 := fun w h => Go.Proofs.cell_of_shapedOpen_int (zero := #[.int .i64 0]) (t := 3) h (of_decide_eq_true (by kernel_rfl)) (by kernel_rfl) rfl (by kernel_rfl) (by kernel_rfl) Tryz.underlying3
 m3 := by kernel_rfl
 m4 := by kernel_rfl }
end Go.Proofs
namespace Go.Proofs.YtndjbnkmhpbnpaaGreatDoor
open Go.RowKit
structure LaidT (w : World) : Prop where
 tab : Lib.TabIs Tryz.prog w "internal/strconv.uint64pow10" .u64 Lib.pow10Tab
structure LaidW (w : World) : Prop extends LaidT w where
 syn : ∃ tp p, w.var? Tryz.prog "strconv.ErrSyntax" = some #[.iface tp p]
 ran : ∃ tp p, w.var? Tryz.prog "strconv.ErrRange" = some #[.iface tp p]
 mlen : ∃ m, w.cell? ⟨(Tryz.laysM146_ren.g 1), 0, none⟩ = some (.int .i64 m)
theorem var_below {P : Program} {n : String} {w w' : World} {cs : Array Value} (h : w.var? P n = some cs) (hb : Below w.heap.size w w') : w'.var? P n = some cs := by
 unfold World.var? at h ⊢
 cases hg : P.globalNamed n with
 | none => rw [hg] at h; cases h
 | some g =>
  rw [hg] at h
  simp only [Option.bind_some] at h ⊢
  have hlt : g < w.heap.size := by
   by_cases hlt : g < w.heap.size
   ·exact hlt
   ·rw [Array.getElem?_eq_none (by omega)] at h
    cases h
  rw [hb.block g hlt]
  exact h
theorem LaidT.below {w w' : World} (h : LaidT w) (hb : Below w.heap.size w w') : LaidT w' := ⟨var_below h.tab hb⟩
theorem LaidW.below {w w' : World} (h : LaidW w) (hb : Below w.heap.size w w') : LaidW w' := by
 obtain ⟨tp, p, hs⟩ := h.syn
 obtain ⟨tq, q, hr⟩ := h.ran
 obtain ⟨m, hm⟩ := h.mlen
 exact ⟨h.toLaidT.below hb, ⟨tp, p, var_below hs hb⟩, ⟨tq, q, var_below hr hb⟩, ⟨m, (World.cell?_of_block (hb.block _ (World.block_lt_of_cell? w _ hm))).trans hm⟩⟩
end Go.Proofs.YtndjbnkmhpbnpaaGreatDoor
namespace Go.Proofs.YtndjbnkmhpbnpaaGreatDoor
open Go Go.RowKit
variable {H : Type} {enc : TypeId × Value → H}
theorem handed_and_shaped {a : Assume} {C : Checked} {os : Os} {f : FuncId} {fn : Func} {s : ChangeSpec} {conds : List PathCond} {apart fresh handsOn again : Bool} {X : World → Array Value → Prop}
  (hX : ∀ (w w' : World) (args : Array Value), w.heap = w'.heap → X w args → X w' args)
  (own : ownKnob C.prog.godebug = none) (started : os.Started) (noInit : C.prog.inits.idxOf? f = none) (hfn : C.prog.funcs[f]? = some fn)
  (witness : ∃ (w : World) (tape : Tape) (i : Input), w.os = os ∧ (w.forCall tape i).Shaped C.prog ∧ i.vars = [] ∧ Input.okWide C.prog (w.forCall tape i) .any w.heap.size f i ∧
   ((s.pre enc C.prog fn conds apart (w.forCall tape i).memory i.args ∧ X (w.forCall tape i).memory i.args) ∧ sizedMet enc C.prog fn (OpenSpec.ofChange s) apart (w.forCall tape i).memory i.args) ∧ a.holds C.prog (lone (Frame.enter C.prog f i.args .normal) [] (w.forCall tape i)))
  (contract : ∀ (W : World) (base : Nat) (args : Array Value) (ds gs : List (DataW H)) (before : List MemPlace),
   (∀ (j : Nat) t v, fn.params[j]? = some t → args[j]? = some v → Value.okWide C.prog W .any base t v) →
   DataW.Whole enc C.prog fn.params.toList s.vars apart W args.toList ds gs before →
   conds.all (PathCond.test C.prog ⟨fn.params.toList, ds, s.plain.varTypes C.prog, gs⟩) = true →
   (DataW.weightsEach C.prog (fn.params.toList ++ s.plain.varTypes C.prog) (ds ++ gs)).all (· ≤ reachBytes) = true → X W args → W.ShapedOpen C.prog →
   a.holds C.prog (lone (Frame.enter C.prog f args .normal) [] W) →
   Calls C.prog f args W fun e W' => ∃ v, e = .returned v ∧ s.post enc C.prog fn apart fresh handsOn again W args v W') :
  ReturnsInHanded a C os f .any (fun w args => (s.pre enc C.prog fn conds apart w args ∧ X w args) ∧ sizedMet enc C.prog fn (OpenSpec.ofChange s) apart w args) (s.post enc C.prog fn apart fresh handsOn again) := by
 refine returnsInHanded_of_calls own started noInit witness ?_
 intro w tape i _ hsh _ hok hpre hholds
 obtain ⟨_, _, _, fn', hfn', _, _, _, _, hval⟩ := hok
 have e : fn' = fn := Option.some.inj (hfn'.symm.trans hfn)
 subst e
 obtain ⟨⟨⟨ds, gs, before, hw, hc⟩, hx⟩, hz⟩ := hpre
 have hw' := DataW.Whole.of_heap (w' := w.forCall tape i) (by rfl) hw
 refine (contract (w.forCall tape i) w.heap.size i.args ds gs before hval hw' hc (hz.weights hw) (hX _ _ _ (by rfl) hx) hsh hholds).mono fun e W' ⟨v, he, hp⟩ => ?_
 subst he
 exact ChangeSpec.post_blind hp
theorem gES : Tryz.prog.globalNamed "strconv.ErrSyntax" = some 0 := by kernel_rfl
theorem gER : Tryz.prog.globalNamed "strconv.ErrRange" = some 1 := by kernel_rfl
theorem gTab : Tryz.prog.globalNamed "internal/strconv.uint64pow10" = some 2 := by kernel_rfl
theorem gESt : (Tryz.prog.globals[0]?).map (·.type) = some 81 := by kernel_rfl
theorem gERt : (Tryz.prog.globals[1]?).map (·.type) = some 81 := by kernel_rfl
theorem gTabt : (Tryz.prog.globals[2]?).map (·.type) = some 151 := by kernel_rfl
theorem star_ : "*" ++ "errors.errorString" = "*errors.errorString" := by decide
theorem row163 (u : TypeId) (h : Tryz.prog.typeName? 3 u = some "*errors.errorString") : u = 163 :=
 typeName_ptr_named (nm := "errors.errorString") (by rw [star_]; kernel_rfl) (by kernel_rfl) (by decide) u (by rw [star_]; exact h)
theorem laidT_of {r : List (String × DataW Unit)} {W : World} (h : laidMet Tryz.prog (("internal/strconv.uint64pow10", Rows.laid_internal_strconv_uint64pow10) :: r) W) : LaidT W :=
 ⟨Lib.tabIs_of_head gTab gTabt Tryz.underlying151 Tryz.underlying106 (by kernel_rfl) (by kernel_rfl) h⟩
theorem laidW_of {r : List (String × DataW Unit)} {x : String × DataW Unit} {W : World} (h : laidMet Tryz.prog (("internal/strconv.uint64pow10", Rows.laid_internal_strconv_uint64pow10) :: x :: ("strconv.ErrRange", Rows.laid_strconv_ErrRange) :: ("strconv.ErrSyntax", Rows.laid_strconv_ErrSyntax) :: r) W) (hsh : W.ShapedOpen Tryz.prog) : LaidW W := by
 obtain ⟨a1, s1, hv1, -, -, -⟩ := laid_sentinel (tp := 163) (te := 165) (ts := 9) h.tail.tail gER gERt Tryz.underlying81 row163 Tryz.underlying163 Tryz.underlying165 rfl rfl Tryz.underlying9 (by kernel_rfl) (by kernel_rfl)
 obtain ⟨a0, s0, hv0, -, -, -⟩ := laid_sentinel (tp := 163) (te := 165) (ts := 9) h.tail.tail.tail gES gESt Tryz.underlying81 row163 Tryz.underlying163 Tryz.underlying165 rfl rfl Tryz.underlying9 (by kernel_rfl) (by kernel_rfl)
 exact { laidT_of h with syn := ⟨_, _, hv0⟩, ran := ⟨_, _, hv1⟩, mlen := Tryz.laysM146.s1_3 W hsh }
end Go.Proofs.YtndjbnkmhpbnpaaGreatDoor
namespace Go.Proofs.YtndjbnkmhpbnpaaGreatDoor.Pr
open Go.RowKit Go.Maps
theorem keyed3 : Keyed Tryz.prog 3 := int_keyed Tryz.underlying3
theorem zero4 (w : World) : (zeroValue 4).run Tryz.prog w = .ok (.bool false) w := by kernel_rfl
def AliveMap (w : World) (B n : Nat) (L : List Int) : Prop :=
 ∃ D : DataW Unit, w.ownsMap Tryz.prog 3 (plainElem Tryz.prog 4) B n D ∧ IsMap D ∧ ∀ x : Int, D.atKey (.int .i64 x) (.lit (.bool false)) = .lit (.bool (decide (x ∈ L)))
theorem AliveMap.start (w : World) : AliveMap (w.alloc (.map #[] 0)) w.heap.size 0 [] := ⟨.map [], World.ownsMap_made w _ _ _, isMap_empty, fun x => by simp; rfl⟩
theorem AliveMap.lt {w : World} {B n : Nat} {L : List Int} (h : AliveMap w B n L) : B < w.heap.size := by
 obtain ⟨D, h1, _⟩ := h
 exact h1.lt
theorem AliveMap.kept {w w' : World} {B n : Nat} {L : List Int} (h : AliveMap w B n L) (hb : w'.heap[B]? = w.heap[B]?) : AliveMap w' B n L := by
 obtain ⟨D, ⟨es, clock, h1, h2⟩, h3⟩ := h
 exact ⟨D, ⟨es, clock, by rw [hb]; exact h1, h2⟩, h3⟩
theorem AliveMap.isMapObj {w : World} {B n : Nat} {L : List Int} (h : AliveMap w B n L) : ∃ es clock, w.heap[B]? = some (.map es clock) := by
 obtain ⟨D, ⟨es, clock, h1, _⟩, _⟩ := h
 exact ⟨es, clock, h1⟩
theorem int_key {x : Int} (hx : (Lit.int .i64 x).wf = true) : keyOf Tryz.prog 3 (.int .i64 x) = some (.int .i64 x) := keyOf_int_mk Tryz.underlying3 hx
set_option maxRecDepth 100000 in
theorem AliveMap.look {w : World} {B n : Nat} {L : List Int} (h : AliveMap w B n L) {x : Int} (hx : (Lit.int .i64 x).wf = true) : (Instr.lookup 71 (.map (some B)) (.int .i64 x) false).run Tryz.prog w = .ok (.bool (decide (x ∈ L))) w := by
 obtain ⟨D, h1, h2, h3⟩ := h
 obtain ⟨v, ps, hrun, hv⟩ := h1.lookup keyed3 Tryz.underlying71 (zero4 w) (plainElem_bool (H := Unit) Tryz.underlying4 false) (int_key hx)
 rw [h3 x] at hv
 have : v = .bool (decide (x ∈ L)) := by
  unfold plainElem at hv
  rw [Tryz.underlying4] at hv
  cases v with
  | bool b =>
   simp only [Option.some.injEq, Prod.mk.injEq, DataW.lit.injEq, Lit.bool.injEq] at hv
   rw [hv.1]
  | _ => simp at hv
 rw [hrun, this]
section
variable {ops : Array Oper} {rest : List Oper} {o : Oper} {a : Act} {Q : Exit → Act → World → Prop}
set_option maxRecDepth 100000 in
theorem wpList_born {W : World} {B n : Nat} {L : List Int} (hg : o.guard = none) (m x v : Operand) (hop : o.op = Op.mapUpdate 71 m x v) (hm : a.eval m = .map (some B)) (h : AliveMap W B n L) (hn : n < 1000000) (key : Int)
  (hx : a.eval x = .int .i64 key) (hv : a.eval v = .bool true) (hkw : (Lit.int .i64 key).wf = true)
  (hK : ∀ W', AliveMap W' B (n + 1) (L ++ [key]) → W.grownBy W' (some B) → wpList Tryz.prog ops Q rest (a.put o.dst undef) W') : wpList Tryz.prog ops Q (o :: rest) a W := by
 obtain ⟨D, h1, h2, h3⟩ := h
 refine wpList_mapUpdate_own W hg m x v 71 hop 3 4 keyed3 Tryz.underlying71 (plainElem Tryz.prog 4) B n D hm h1 (by unfold maxLen; omega) _ _ _ hx hv (int_key hkw) (.lit (.bool true)) [] (plainElem_bool Tryz.underlying4 true) ?_
 intro W' h1' hg'
 refine hK W' ⟨_, h1', h2.put _ _, fun y => ?_⟩ hg'
 by_cases hy : y = key
 ·subst hy
  rw [atKey_put_same h2 (by exact trivial)]
  simp
 ·rw [atKey_put_other (by intro e; injection e with _ e; exact hy e), h3 y]
  simp [hy]
set_option maxRecDepth 100000 in
theorem wpList_dead {W : World} {B n : Nat} {L : List Int} (hg : o.guard = none) (m x : Operand) (hop : o.op = Op.call { callee := Callee.builtin Builtin.delete, args := #[m, x], argTypes := #[71, 3] }) (hm : a.eval m = .map (some B)) (h : AliveMap W B n L) (key : Int)
  (hx : a.eval x = .int .i64 key) (hkw : (Lit.int .i64 key).wf = true)
  (hK : ∀ W', AliveMap W' B n (L.filter (fun y => y != key)) → W.grownBy W' (some B) → wpList Tryz.prog ops Q rest (a.put o.dst (.tuple #[])) W') : wpList Tryz.prog ops Q (o :: rest) a W := by
 obtain ⟨D, h1, h2, h3⟩ := h
 refine wpList_delete_own _ hg m x 71 3 hop 4 keyed3 Tryz.underlying71 (plainElem Tryz.prog 4) B n D hm h1 _ _ hx (int_key hkw) ?_
 intro W' h1' hg'
 refine hK W' ⟨_, h1', h2.del _, fun y => ?_⟩ hg'.grown
 by_cases hy : y = key
 ·subst hy
  rw [atKey_del_same]
  simp
 ·rw [atKey_del_other (by intro e; injection e with _ e; exact hy e), h3 y]
  simp [hy]
end
end Go.Proofs.YtndjbnkmhpbnpaaGreatDoor.Pr
namespace Go.Proofs.YtndjbnkmhpbnpaaGreatDoor.Pr
open Go.RowKit Go.Proofs.YtndjbnkmhpbnpaaGreatDoorW.PrintWords Go.Proofs.YtndjbnkmhpbnpaaGreatDoorW.PrintLast
def lvset (xs : List S31) (i : Int) (e : S55) : List S31 :=
 if e.f0.toList = [43] then xs.set (e.f1 - 1).toNat ⟨i, i, -1⟩
 else if e.f0.toList = [46] then xs.set (e.f1 - 1).toNat ⟨(rd_T31 xs (e.f1 - 1)).f0, i, (rd_T31 xs (e.f1 - 1)).f2⟩
 else if e.f0.toList = [45] then xs.set (e.f1 - 1).toNat ⟨(rd_T31 xs (e.f1 - 1)).f0, (rd_T31 xs (e.f1 - 1)).f1, i⟩
 else xs
def lvloop : List S55 → Int → List S31 → List S31
 | [], _, xs => xs
 | e :: r, i, xs => lvloop r (i + 1) (lvset xs i e)
def impl_lives.f (l0 : List S55) (a1 : Int) : Option (List S31) :=
 if 0 ≤ a1 ∧ a1 ≤ 1000000 ∧ l0.length ≤ 1000000 ∧ ∀ e ∈ l0, 1 ≤ e.f1 ∧ e.f1 ≤ a1 then some (lvloop l0 0 (List.replicate a1.toNat z31)) else none
theorem lvset_length (xs : List S31) (i : Int) (e : S55) : (lvset xs i e).length = xs.length := by
 unfold lvset
 split
 ·simp
 ·split
  ·simp
  ·split
   ·simp
   ·rfl
theorem lvloop_drop {l : List S55} {k : Nat} (hk : k < l.length) (xs : List S31) : lvloop (l.drop k) k xs = lvloop (l.drop (k + 1)) ((k + 1 : Nat) : Int) (lvset xs k l[k]) := by
 rw [List.drop_eq_getElem_cons hk, lvloop]
 rfl
theorem below_al {w : World} (o : Obj) : Below w.heap.size w (w.alloc o) := (Below.refl _ w).alloc (Nat.le_refl _) o
def LvIn (w wr : World) (v : Value) (xs : List S31) : Prop := Kd.R k31 31 wr w.heap.size (fun _ => True) v xs ∧ Below w.heap.size w wr
def LvRel (w : World) (l0 : List S55) (a1 : Int) (v5 v13 : Value) (wr : World) : Prop :=
 ∃ (k : Nat) (xs : List S31), k ≤ l0.length ∧ v13 = .int .i64 k ∧ lvloop l0 0 (List.replicate a1.toNat z31) = lvloop (l0.drop k) k xs ∧ xs.length = a1.toNat ∧ LvIn w wr v5 xs
set_option maxHeartbeats 4000000 in
set_option maxRecDepth 1000000 in
theorem lives_any (A0 : Option Addr) (c0 : Nat) (l0 : List S55) (a1 : Int) (w : World) (hr0 : Kd.C k55 w A0 l0.length l0) (h1 : 0 ≤ a1) (h2 : a1 ≤ 1000000) (h3 : l0.length ≤ 1000000) (h4 : ∀ e ∈ l0, 1 ≤ e.f1 ∧ e.f1 ≤ a1) :
  Calls Tryz.prog 51 #[.slice A0 l0.length c0, .int .i64 a1] w fun e w' => ∃ v0_ : Value, e = .returned v0_ ∧ LvIn w w' v0_ (lvloop l0 0 (List.replicate a1.toNat z31)) := by
 have HR0 := Lib.hid hr0
 have H4 := Lib.hid h4
 clear hr0 h4
 go_enter Tryz.func51, Tryz.ntmps51
 go_wp2_with ((with_reducible refine gate_dst (N := 10) rfl ?_); refine Kd.R_make k31 (w0 := w) w.heap.size 31 rfl (N := 10) rfl 27 _ _ rfl a1 rfl rfl Tryz.underlying27 (.agg #[(.int .i64 0), (.int .i64 0), (.int .i64 0)]) 24 info31 rfl (by decide) (by omega) z31 (ok := fun _ => True) (okp := fun _ => True) (k31_mkM _ _ _ z31) (fun _ hk => hk) trivial (by omega) (by omega) (Below.refl _ _) (Nat.le_refl _) ?_; intro v1 w1 ho1 hb1 hg_ hz_; clear hg_ hz_; have HI := Lib.hid (show LvIn w w1 v1 _ from ⟨ho1, hb1⟩); clear ho1 hb1)
 go_loopw [13] (fun v13 wr => LvRel w l0 a1 v1 v13 wr) (fun v13 _ => l0.length - (intOf v13).toNat)
 case atStart => exact ⟨0, _, Nat.zero_le _, rfl, rfl, by simp, HI.out⟩
 case round =>
  clear HI
  obtain ⟨k, xs, hk, rfl, hT, hxl, hI⟩ := hrel
  have HT := Lib.hid hT
  have HI := Lib.hid hI
  clear hT hI
  by_cases hlt : k < l0.length
  ·have he := H4.out _ (List.getElem_mem hlt)
   obtain ⟨ad, hA, hx0, hx1⟩ := at_T55 (Kd.C_below (HR0.out) HI.out.2) (k : Int) (by omega) (by omega)
   have HD := Lib.hid (HT.out.trans (lvloop_drop hlt xs))
   rw [show rd_T55 l0 (k : Int) = l0[k] by unfold rd_T55; simp [hlt]] at hx0 hx1
   simp only [Int.toNat_natCast] at hx0 hx1
   generalize l0[k] = e at *
   clear HT
   obtain ⟨g, cap, hv, hbg, hgl, cells, hcells⟩ := Kd.R_form HI.out.1 (by omega)
   subst hA hv
   have HBG := Lib.hid hbg
   clear hbg hgl hcells
   go_upto_region 7 with fail
   have HI4 := Lib.hid (show LvIn w (wr.alloc (.cells #[.string e.f0, .int .i64 e.f1] 55)) (.slice (some ⟨g, 0, none⟩) xs.length cap) xs from ⟨Kd.Rb HI.out.1 (below_al _), HI.out.2.trans ((below_al _).mono HI.out.2.size)⟩)
   obtain ⟨W4, hW4⟩ : ∃ W4, W4 = wr.alloc (.cells #[.string e.f0, .int .i64 e.f1] 55) := ⟨_, rfl⟩
   rw [← hW4] at HI4 ⊢
   clear hW4 hx0 hx1 HI
   have hp : 0 ≤ e.f1 - 1 := by omega
   have hq : e.f1 - 1 < (xs.length : Int) := by omega
   obtain ⟨ce, hcl, hM, hcc, hfr⟩ := Kd.R_elem HI4.out.1 z31 (e.f1 - 1) hp hq
   obtain rfl := k31_openM hM
   have hto : (e.f1 - 1).toNat = e.f1.toNat - 1 := by omega
   have y0 := hcc 0 _ rfl
   have y1 := hcc 1 _ rfl
   have y2 := hcc 2 _ rfl
   have g0 := hfr 0
   have g1 := hfr 1
   have g2 := hfr 2
   simp only [show (k31).sz = 3 from rfl, hto, Nat.add_zero] at y0 y1 y2 g0 g1 g2
   have HCC := Lib.hid hcc
   clear hcc hfr hM hcl
   by_cases s43 : e.f0.toList = [43]
   ·have b43 : (e.f0.toList == [43]) = true := beq_iff_eq.2 s43
    have HS := Lib.hid (show lvset xs k e = xs.set (e.f1 - 1).toNat ⟨k, k, -1⟩ by unfold lvset; rw [if_pos s43])
    have HP := Lib.hid (Kd.R_seg HI4.out.1 (e.f1 - 1) hp hq (seg := [.int .i64 k, .int .i64 k, .int .i64 (-1)]) (j := 0) rfl HCC.out (show 3 ≤ 3 from by decide) (x' := (⟨k, k, -1⟩ : S31)) (k31_mkM _ _ _ (⟨k, k, -1⟩ : S31)) (fun _ hk => hk))
    clear s43 hp hq
    go_wp2_with fail
    go_roundw
    case rel =>
     have hP := HP.out.1
     rw [← HS.out, hto] at hP
     exact ⟨k + 1, lvset xs k e, hlt, by go_num, HD.out, (lvset_length ..).trans hxl, hP, below_set (below_set (below_set HI4.out.2 HBG.out) HBG.out) HBG.out⟩
    case measure => simp [intOf]; omega
   ·have b43 : (e.f0.toList == [43]) = false := beq_eq_false_iff_ne.2 s43
    by_cases s46 : e.f0.toList = [46]
    ·have b46 : (e.f0.toList == [46]) = true := beq_iff_eq.2 s46
     have HS := Lib.hid (show lvset xs k e = xs.set (e.f1 - 1).toNat ⟨(xs.getD (e.f1 - 1).toNat z31).f0, k, (xs.getD (e.f1 - 1).toNat z31).f2⟩ by unfold lvset; rw [if_neg s43, if_pos s46]; rfl)
     have HP := Lib.hid (Kd.R_seg HI4.out.1 (e.f1 - 1) hp hq (seg := [.int .i64 k]) (j := 1) rfl HCC.out (show 2 ≤ 3 from by decide) (x' := (⟨(xs.getD (e.f1 - 1).toNat z31).f0, k, (xs.getD (e.f1 - 1).toNat z31).f2⟩ : S31)) (k31_mkM _ _ _ (⟨(xs.getD (e.f1 - 1).toNat z31).f0, k, (xs.getD (e.f1 - 1).toNat z31).f2⟩ : S31)) (fun _ hk => hk))
     clear s43 s46 hp hq
     go_wp2_with fail
     go_roundw
     case rel =>
      have hP := HP.out.1
      rw [← HS.out, hto] at hP
      exact ⟨k + 1, lvset xs k e, hlt, by go_num, HD.out, (lvset_length ..).trans hxl, hP, below_set HI4.out.2 HBG.out⟩
     case measure => simp [intOf]; omega
    ·have b46 : (e.f0.toList == [46]) = false := beq_eq_false_iff_ne.2 s46
     by_cases s45 : e.f0.toList = [45]
     ·have b45 : (e.f0.toList == [45]) = true := beq_iff_eq.2 s45
      have HS := Lib.hid (show lvset xs k e = xs.set (e.f1 - 1).toNat ⟨(xs.getD (e.f1 - 1).toNat z31).f0, (xs.getD (e.f1 - 1).toNat z31).f1, k⟩ by unfold lvset; rw [if_neg s43, if_neg s46, if_pos s45]; rfl)
      have HP := Lib.hid (Kd.R_seg HI4.out.1 (e.f1 - 1) hp hq (seg := [.int .i64 k]) (j := 2) rfl HCC.out (show 3 ≤ 3 from by decide) (x' := (⟨(xs.getD (e.f1 - 1).toNat z31).f0, (xs.getD (e.f1 - 1).toNat z31).f1, k⟩ : S31)) (k31_mkM _ _ _ (⟨(xs.getD (e.f1 - 1).toNat z31).f0, (xs.getD (e.f1 - 1).toNat z31).f1, k⟩ : S31)) (fun _ hk => hk))
      clear s43 s46 s45 hp hq
      go_wp2_with fail
      go_roundw
      case rel =>
       have hP := HP.out.1
       rw [← HS.out, hto] at hP
       exact ⟨k + 1, lvset xs k e, hlt, by go_num, HD.out, (lvset_length ..).trans hxl, hP, below_set HI4.out.2 HBG.out⟩
      case measure => simp [intOf]; omega
     ·have b45 : (e.f0.toList == [45]) = false := beq_eq_false_iff_ne.2 s45
      have HS := Lib.hid (show lvset xs k e = xs by unfold lvset; rw [if_neg s43, if_neg s46, if_neg s45])
      clear s43 s46 s45 hp hq
      go_wp2_with fail
      go_roundw
      case rel => exact ⟨k + 1, lvset xs k e, hlt, by go_num, HD.out, (lvset_length ..).trans hxl, by rw [HS.out]; exact HI4.out⟩
      case measure => simp [intOf]; omega
  ·have hkn : k = l0.length := by omega
   subst hkn
   have HE := Lib.hid (show lvloop l0 0 (List.replicate a1.toNat z31) = xs by rw [HT.out, List.drop_length, lvloop])
   clear HT
   go_wp2_with fail
   go_ret
   exact ⟨_, rfl, by rw [HE.out]; exact HI.out⟩
theorem impl_lives.calls (A0 : Option Addr) (c0 : Nat) (l0 : List S55) (a1 : Int) (r : List S31) (w : World) (hr0 : Kd.C k55 w A0 l0.length l0) (_ : l0.length ≤ c0) (h : impl_lives.f l0 a1 = some r) :
  Calls Tryz.prog 51 #[.slice A0 l0.length c0, .int .i64 a1] w fun e w' => ∃ v0_ : Value, e = .returned (v0_) ∧ Kd.R k31 31 w' w.heap.size (fun _ => True) v0_ r ∧ Below w.heap.size w w' := by
 unfold impl_lives.f at h
 split at h
 ·rename_i hh
  injection h with h
  subst h
  exact lives_any A0 c0 l0 a1 w hr0 hh.1 hh.2.1 hh.2.2.1 hh.2.2.2
 ·cases h
end Go.Proofs.YtndjbnkmhpbnpaaGreatDoor.Pr
namespace Go.Proofs.YtndjbnkmhpbnpaaGreatDoor.Pr
open Go.RowKit Go.Proofs.YtndjbnkmhpbnpaaGreatDoorW.PrintWords Go.Proofs.YtndjbnkmhpbnpaaGreatDoorW.PrintLast Go.Proofs.YtndjbnkmhpbnpaaGreatDoorW.PrintMore
inductive Good : List S55 → Nat → List Int → Prop
  | nil : Good [] 0 []
  | make {o : List S55} {m : Nat} {l : List Int} {s : ByteArray} : Good o m l → s.toList = [43] → Good (o ++ [⟨s, ((m + 1 : Nat) : Int)⟩]) (m + 1) (l ++ [((m + 1 : Nat) : Int)])
  | use {o : List S55} {m : Nat} {l : List Int} {s : ByteArray} {n : Int} : Good o m l → s.toList = [46] → n ∈ l → Good (o ++ [⟨s, n⟩]) m l
  | kill {o : List S55} {m : Nat} {l : List Int} {s : ByteArray} {n : Int} : Good o m l → s.toList = [45] → n ∈ l → Good (o ++ [⟨s, n⟩]) m (l.filter (fun y => y != n))
theorem Good.range {o : List S55} {m : Nat} {l : List Int} (h : Good o m l) : ∀ x ∈ l, 1 ≤ x ∧ x ≤ m := by
  induction h with
  | nil => intro x hx; cases hx
  | make _ _ ih =>
    intro x hx
    rcases List.mem_append.1 hx with hx | hx
    · have := ih x hx; omega
    · have := List.mem_singleton.1 hx; omega
  | use _ _ _ ih => exact ih
  | kill _ _ _ ih => intro x hx; exact ih x (List.mem_filter.1 hx).1
theorem Good.made {o : List S55} {m : Nat} {l : List Int} (h : Good o m l) : m ≤ o.length ∧ l.length ≤ m := by
  induction h with
  | nil => simp
  | make _ _ ih => simp; omega
  | use _ _ _ ih => simp; omega
  | kill _ _ _ ih =>
    refine ⟨by simp; omega, Nat.le_trans (List.length_filter_le _ _) ih.2⟩
theorem Good.sorted {o : List S55} {m : Nat} {l : List Int} (h : Good o m l) : l.Pairwise (· < ·) := by
  induction h with
  | nil => exact .nil
  | make g _ ih =>
    rw [List.pairwise_append]
    refine ⟨ih, by simp, fun a ha b hb => ?_⟩
    have h1 := g.range a ha
    have h2 := List.mem_singleton.1 hb
    omega
  | use _ _ _ ih => exact ih
  | kill _ _ _ ih => exact ih.filter _
theorem Good.values {o : List S55} {m : Nat} {l : List Int} (h : Good o m l) : ∀ e ∈ o, 1 ≤ e.f1 ∧ e.f1 ≤ m := by
  induction h with
  | nil => intro x hx; cases hx
  | make _ _ ih =>
    intro x hx
    rcases List.mem_append.1 hx with hx | hx
    · have := ih x hx; omega
    · have := List.mem_singleton.1 hx; subst this; dsimp only; omega
  | use g _ hn ih =>
    intro x hx
    rcases List.mem_append.1 hx with hx | hx
    · exact ih x hx
    · have := List.mem_singleton.1 hx; subst this; exact g.range _ hn
  | kill g _ hn ih =>
    intro x hx
    rcases List.mem_append.1 hx with hx | hx
    · exact ih x hx
    · have := List.mem_singleton.1 hx; subst this; exact g.range _ hn
def StepAt (o : List S55) (i M : Nat) : Prop := ∃ (e : S55) (m : Nat) (l : List Int), o[i]? = some e ∧ o.take (i + 1) = o.take i ++ [e] ∧ Good (o.take i) m l ∧ m ≤ M ∧
  ((e.f0.toList = [43] ∧ e.f1 = ((m + 1 : Nat) : Int) ∧ m + 1 ≤ M ∧ Good (o.take (i + 1)) (m + 1) (l ++ [((m + 1 : Nat) : Int)])) ∨
   (e.f0.toList = [46] ∧ e.f1 ∈ l ∧ Good (o.take (i + 1)) m l) ∨
   (e.f0.toList = [45] ∧ e.f1 ∈ l ∧ Good (o.take (i + 1)) m (l.filter (fun y => y != e.f1))))
theorem StepAt.snoc {o : List S55} {i M M' : Nat} {e' : S55} (h : StepAt o i M) (hi : i < o.length) (hM : M ≤ M') : StepAt (o ++ [e']) i M' := by
  obtain ⟨e, m, l, h1, h2, h3, h4, h5⟩ := h
  refine ⟨e, m, l, ?_, ?_, ?_, by omega, ?_⟩
  · rw [List.getElem?_append_left hi]; exact h1
  · rw [List.take_append_of_le_length (by omega), List.take_append_of_le_length (by omega)]; exact h2
  · rw [List.take_append_of_le_length (by omega)]; exact h3
  · rw [List.take_append_of_le_length (by omega)]
    rcases h5 with h | h | h
    · exact .inl ⟨h.1, h.2.1, by omega, h.2.2.2⟩
    · exact .inr (.inl h)
    · exact .inr (.inr h)
theorem take_end {o : List S55} {e : S55} : (o ++ [e]).take o.length = o ∧ (o ++ [e]).take (o.length + 1) = o ++ [e] ∧ (o ++ [e])[o.length]? = some e :=
  ⟨by simp, by rw [List.take_of_length_le (by simp)], by simp⟩
theorem Good.step {o : List S55} {m : Nat} {l : List Int} (h : Good o m l) : ∀ i, i < o.length → StepAt o i m := by
  induction h with
  | nil => intro i hi; simp at hi
  | @make o m l s g hs ih =>
    intro i hi
    by_cases h : i < o.length
    · exact (ih i h).snoc h (by omega)
    · simp at hi
      obtain rfl : i = o.length := by omega
      obtain ⟨t1, t2, t3⟩ := @take_end o ⟨s, ((m + 1 : Nat) : Int)⟩
      refine ⟨_, m, l, t3, by rw [t1, t2], by rw [t1]; exact g, by omega, .inl ⟨hs, rfl, by omega, by rw [t2]; exact g.make hs⟩⟩
  | @use o m l s n g hs hn ih =>
    intro i hi
    by_cases h : i < o.length
    · exact (ih i h).snoc h (by omega)
    · simp at hi
      obtain rfl : i = o.length := by omega
      obtain ⟨t1, t2, t3⟩ := @take_end o ⟨s, n⟩
      refine ⟨_, m, l, t3, by rw [t1, t2], by rw [t1]; exact g, by omega, .inr (.inl ⟨hs, hn, by rw [t2]; exact g.use hs hn⟩)⟩
  | @kill o m l s n g hs hn ih =>
    intro i hi
    by_cases h : i < o.length
    · exact (ih i h).snoc h (by omega)
    · simp at hi
      obtain rfl : i = o.length := by omega
      obtain ⟨t1, t2, t3⟩ := @take_end o ⟨s, n⟩
      refine ⟨_, m, l, t3, by rw [t1, t2], by rw [t1]; exact g, by omega, .inr (.inr ⟨hs, hn, by rw [t2]; exact g.kill hs hn⟩)⟩
def lvset1 (xs : List S31) (i : Int) (e : S55) : List S31 := if e.f0.toList = [43] then xs ++ [⟨i, i, -1⟩] else lvset xs i e
def lvgo : List S55 → Int → List S31 → List S31
  | [], _, xs => xs
  | e :: r, i, xs => lvgo r (i + 1) (lvset1 xs i e)
def lvs (o : List S55) : List S31 := lvgo o 0 []
theorem lvgo_snoc (e : S55) : ∀ (o : List S55) (i : Int) (xs : List S31), lvgo (o ++ [e]) i xs = lvset1 (lvgo o i xs) (i + o.length) e
  | [], i, xs => by simp [lvgo]
  | a :: r, i, xs => by
    rw [List.cons_append, lvgo, lvgo, lvgo_snoc e r]
    congr 1
    simp only [List.length_cons]; omega
theorem lvs_snoc (o : List S55) (e : S55) : lvs (o ++ [e]) = lvset1 (lvs o) o.length e := by
  unfold lvs
  rw [lvgo_snoc]
  congr 1
  omega
theorem lvloop_snoc (e : S55) : ∀ (o : List S55) (i : Int) (xs : List S31), lvloop (o ++ [e]) i xs = lvset (lvloop o i xs) (i + o.length) e
  | [], i, xs => by simp [lvloop]
  | a :: r, i, xs => by
    rw [List.cons_append, lvloop, lvloop, lvloop_snoc e r]
    congr 1
    simp only [List.length_cons]; omega
theorem lvset_43 {xs : List S31} {i : Int} {e : S55} (h : e.f0.toList = [43]) : lvset xs i e = xs.set (e.f1 - 1).toNat ⟨i, i, -1⟩ := by
  unfold lvset; rw [if_pos h]
theorem lvset_46 {xs : List S31} {i : Int} {e : S55} (h : e.f0.toList = [46]) : lvset xs i e = xs.set (e.f1 - 1).toNat ⟨(rd_T31 xs (e.f1 - 1)).f0, i, (rd_T31 xs (e.f1 - 1)).f2⟩ := by
  unfold lvset; rw [if_neg (by rw [h]; decide), if_pos h]
theorem lvset_45 {xs : List S31} {i : Int} {e : S55} (h : e.f0.toList = [45]) : lvset xs i e = xs.set (e.f1 - 1).toNat ⟨(rd_T31 xs (e.f1 - 1)).f0, (rd_T31 xs (e.f1 - 1)).f1, i⟩ := by
  unfold lvset; rw [if_neg (by rw [h]; decide), if_neg (by rw [h]; decide), if_pos h]
theorem lvset1_43 {xs : List S31} {i : Int} {e : S55} (h : e.f0.toList = [43]) : lvset1 xs i e = xs ++ [⟨i, i, -1⟩] := by
  unfold lvset1; rw [if_pos h]
theorem lvset1_46 {xs : List S31} {i : Int} {e : S55} (h : e.f0.toList = [46]) : lvset1 xs i e = xs.set (e.f1 - 1).toNat ⟨(rd_T31 xs (e.f1 - 1)).f0, i, (rd_T31 xs (e.f1 - 1)).f2⟩ := by
  unfold lvset1; rw [if_neg (by rw [h]; decide), lvset_46 h]
theorem lvset1_45 {xs : List S31} {i : Int} {e : S55} (h : e.f0.toList = [45]) : lvset1 xs i e = xs.set (e.f1 - 1).toNat ⟨(rd_T31 xs (e.f1 - 1)).f0, (rd_T31 xs (e.f1 - 1)).f1, i⟩ := by
  unfold lvset1; rw [if_neg (by rw [h]; decide), lvset_45 h]
theorem Good.lvs_length {o : List S55} {m : Nat} {l : List Int} (h : Good o m l) : (lvs o).length = m := by
  induction h with
  | nil => rfl
  | make g hs ih => rw [lvs_snoc, lvset1_43 hs]; simp [ih]
  | use g hs hn ih => rw [lvs_snoc, lvset1_46 hs]; simp [ih]
  | kill g hs hn ih => rw [lvs_snoc, lvset1_45 hs]; simp [ih]
theorem rd_app {xs ys : List S31} {n : Int} (h : n.toNat < xs.length) : rd_T31 (xs ++ ys) n = rd_T31 xs n := by
  unfold rd_T31
  rw [List.getD_eq_getElem?_getD, List.getD_eq_getElem?_getD, List.getElem?_append_left h]
theorem Good.lvloop {o : List S55} {m : Nat} {l : List Int} (h : Good o m l) : ∀ M, m ≤ M → lvloop o 0 (List.replicate M z31) = lvs o ++ List.replicate (M - m) z31 := by
  induction h with
  | nil => intro M _; rfl
  | @make o m l s g hs ih =>
    intro M hM
    rw [lvloop_snoc, ih M (by omega), lvs_snoc, lvset_43 hs, lvset1_43 hs]
    have hl := g.lvs_length
    rw [List.set_append_right _ _ (by dsimp only; omega), hl]
    obtain ⟨d, hd⟩ : ∃ d, M - m = d + 1 := ⟨M - m - 1, by omega⟩
    rw [hd, show M - (m + 1) = d by omega, List.replicate_succ, show ((((m + 1 : Nat) : Int)) - 1).toNat - m = 0 by omega]
    simp
  | @use o m l s n g hs hn ih =>
    intro M hM
    have hr := g.range _ hn
    have hl := g.lvs_length
    rw [lvloop_snoc, ih M (by omega), lvs_snoc, lvset_46 hs, lvset1_46 hs]
    dsimp only
    rw [List.set_append_left _ _ (by omega), rd_app (by omega)]
    simp
  | @kill o m l s n g hs hn ih =>
    intro M hM
    have hr := g.range _ hn
    have hl := g.lvs_length
    rw [lvloop_snoc, ih M (by omega), lvs_snoc, lvset_45 hs, lvset1_45 hs]
    dsimp only
    rw [List.set_append_left _ _ (by omega), rd_app (by omega)]
    simp
structure LvOk (n : Nat) (l : List Int) (j : Nat) (L : S31) : Prop where
  born : 0 ≤ L.f0
  used : L.f0 ≤ L.f1
  un : L.f1 < n
  dn : L.f2 < n
  d1 : -1 ≤ L.f2
  ud : 0 ≤ L.f2 → L.f1 < L.f2
  live : L.f2 < 0 ↔ ((j + 1 : Nat) : Int) ∈ l
theorem rd_get {xs : List S31} {j : Nat} {L : S31} (h : xs[j]? = some L) : rd_T31 xs (j : Int) = L := by
  unfold rd_T31
  rw [List.getD_eq_getElem?_getD, Int.toNat_natCast, h]
  rfl
theorem Good.life {o : List S55} {m : Nat} {l : List Int} (h : Good o m l) : ∀ (j : Nat) (L : S31), (lvs o)[j]? = some L → LvOk o.length l j L := by
  induction h with
  | nil => intro j L h; simp [lvs, lvgo] at h
  | @make o m l s g hs ih =>
    intro j L h
    have hl := g.lvs_length
    rw [lvs_snoc, lvset1_43 hs] at h
    by_cases hj : j < m
    · rw [List.getElem?_append_left (by omega)] at h
      obtain ⟨a, b, c, d, e, f, k⟩ := ih j L h
      refine ⟨a, b, by simp; omega, by simp; omega, e, f, k.trans ?_⟩
      simp only [List.mem_append, List.mem_singleton]
      constructor
      · exact .inl
      · rintro (h | h)
        · exact h
        · omega
    · have : j < m + 1 := by
        have := (List.getElem?_eq_some_iff.1 h).1
        simpa [hl] using this
      obtain rfl : j = m := by omega
      rw [List.getElem?_append_right (by omega), hl] at h
      simp at h
      subst h
      exact ⟨by simp, by simp, by simp; omega, by simp; omega, by simp, by simp, by simp⟩
  | @use o m l s n g hs hn ih =>
    intro j L h
    have hr := g.range _ hn
    have hl := g.lvs_length
    rw [lvs_snoc, lvset1_46 hs] at h
    dsimp only at h
    rw [List.getElem?_set] at h
    by_cases hj : (n - 1).toNat = j
    · rw [if_pos hj, if_pos (by omega)] at h
      injection h with h
      obtain ⟨L0, h0⟩ : ∃ L0, (lvs o)[j]? = some L0 := ⟨_, List.getElem?_eq_getElem (by omega)⟩
      obtain ⟨a, b, c, d, e, f, k⟩ := ih j L0 h0
      rw [show n - 1 = (j : Int) by omega, rd_get h0] at h
      have hneg : L0.f2 < 0 := k.2 (by rw [show ((j + 1 : Nat) : Int) = n by omega]; exact hn)
      subst h
      exact ⟨a, by dsimp only; omega, by simp; omega, by simp; omega, e, by dsimp only; omega, k⟩
    · rw [if_neg hj] at h
      obtain ⟨a, b, c, d, e, f, k⟩ := ih j L h
      exact ⟨a, b, by simp; omega, by simp; omega, e, f, k⟩
  | @kill o m l s n g hs hn ih =>
    intro j L h
    have hr := g.range _ hn
    have hl := g.lvs_length
    rw [lvs_snoc, lvset1_45 hs] at h
    dsimp only at h
    rw [List.getElem?_set] at h
    by_cases hj : (n - 1).toNat = j
    · rw [if_pos hj, if_pos (by omega)] at h
      injection h with h
      obtain ⟨L0, h0⟩ : ∃ L0, (lvs o)[j]? = some L0 := ⟨_, List.getElem?_eq_getElem (by omega)⟩
      obtain ⟨a, b, c, d, e, f, k⟩ := ih j L0 h0
      rw [show n - 1 = (j : Int) by omega, rd_get h0] at h
      have hneg : L0.f2 < 0 := k.2 (by rw [show ((j + 1 : Nat) : Int) = n by omega]; exact hn)
      subst h
      refine ⟨a, b, by simp; omega, by simp; omega, by dsimp only; omega, by dsimp only; omega, ?_⟩
      dsimp only
      constructor
      · intro; omega
      · intro hm
        have := (List.mem_filter.1 hm).2
        simp only [bne_iff_ne] at this
        omega
    · rw [if_neg hj] at h
      obtain ⟨a, b, c, d, e, f, k⟩ := ih j L h
      refine ⟨a, b, by simp; omega, by simp; omega, e, f, k.trans ?_⟩
      rw [List.mem_filter]
      constructor
      · intro h; exact ⟨h, by simp only [bne_iff_ne]; omega⟩
      · exact fun h => h.1
def alv : List S31 → Int → Int → List Int
  | [], _, _ => []
  | L :: r, i, k => if L.f0 ≤ k ∧ (L.f2 < 0 ∨ k < L.f2) then (i + 1) :: alv r (i + 1) k else alv r (i + 1) k
theorem alv_append (k : Int) (ys : List S31) : ∀ (xs : List S31) (i : Int), alv (xs ++ ys) i k = alv xs i k ++ alv ys (i + xs.length) k
  | [], i => by simp [alv]
  | L :: r, i => by
    rw [List.cons_append, alv, alv, alv_append k ys r]
    have : i + 1 + (r.length : Int) = i + ((L :: r).length : Int) := by simp only [List.length_cons]; omega
    rw [this]
    split <;> rfl
theorem alv_set (k : Int) (L' : S31) : ∀ (xs : List S31) (i : Int) (j : Nat) (L : S31), xs[j]? = some L → ((L'.f0 ≤ k ∧ (L'.f2 < 0 ∨ k < L'.f2)) ↔ (L.f0 ≤ k ∧ (L.f2 < 0 ∨ k < L.f2))) → alv (xs.set j L') i k = alv xs i k
  | [], i, j, L, h, _ => by simp at h
  | a :: r, i, 0, L, h, hc => by
    simp at h
    subst h
    rw [List.set_cons_zero, alv, alv]
    by_cases hh : L'.f0 ≤ k ∧ (L'.f2 < 0 ∨ k < L'.f2)
    · rw [if_pos hh, if_pos (hc.1 hh)]
    · rw [if_neg hh, if_neg (fun h => hh (hc.2 h))]
  | a :: r, i, j + 1, L, h, hc => by
    rw [List.set_cons_succ, alv, alv, alv_set k L' r (i + 1) j L (by simpa using h) hc]
theorem mem_alv (k : Int) : ∀ (xs : List S31) (i n : Int), n ∈ alv xs i k ↔ ∃ (j : Nat) (L : S31), xs[j]? = some L ∧ n = i + j + 1 ∧ L.f0 ≤ k ∧ (L.f2 < 0 ∨ k < L.f2)
  | [], i, n => by simp [alv]
  | a :: r, i, n => by
    have ih := mem_alv k r (i + 1) n
    have key : (∃ (j : Nat) (L : S31), (a :: r)[j]? = some L ∧ n = i + j + 1 ∧ L.f0 ≤ k ∧ (L.f2 < 0 ∨ k < L.f2)) ↔ ((n = i + 1 ∧ a.f0 ≤ k ∧ (a.f2 < 0 ∨ k < a.f2)) ∨ n ∈ alv r (i + 1) k) := by
      rw [ih]
      constructor
      · rintro ⟨j, L, h1, h2, h3⟩
        cases j with
        | zero => simp at h1; subst h1; exact .inl ⟨by omega, h3⟩
        | succ j => exact .inr ⟨j, L, by simpa using h1, by omega, h3⟩
      · rintro (⟨h1, h2⟩ | ⟨j, L, h1, h2, h3⟩)
        · exact ⟨0, a, by simp, by omega, h2⟩
        · exact ⟨j + 1, L, by simpa using h1, by omega, h3⟩
    rw [key, alv]
    by_cases hh : a.f0 ≤ k ∧ (a.f2 < 0 ∨ k < a.f2)
    · rw [if_pos hh, List.mem_cons]
      simp [hh]
    · rw [if_neg hh]
      simp [hh]
theorem alv_gt (k : Int) (xs : List S31) (i n : Int) (h : n ∈ alv xs i k) : i < n := by
  obtain ⟨j, L, _, h2, _⟩ := (mem_alv k xs i n).1 h
  omega
theorem alv_sorted (k : Int) : ∀ (xs : List S31) (i : Int), (alv xs i k).Pairwise (· < ·)
  | [], i => .nil
  | a :: r, i => by
    rw [alv]
    split
    · exact .cons (fun n hn => alv_gt k r (i + 1) n hn) (alv_sorted k r (i + 1))
    · exact alv_sorted k r (i + 1)
theorem alv_length (k : Int) : ∀ (xs : List S31) (i : Int), (alv xs i k).length ≤ xs.length
  | [], i => by simp [alv]
  | a :: r, i => by
    rw [alv]
    have := alv_length k r (i + 1)
    split <;> simp <;> omega
theorem sorted_ext : ∀ (a b : List Int), a.Pairwise (· < ·) → b.Pairwise (· < ·) → (∀ x, x ∈ a ↔ x ∈ b) → a = b
  | [], [], _, _, _ => rfl
  | [], y :: b, _, _, h => absurd ((h y).2 (by simp)) (by simp)
  | x :: a, [], _, _, h => absurd ((h x).1 (by simp)) (by simp)
  | x :: a, y :: b, ha, hb, h => by
    cases ha with
    | cons ha1 ha2 => cases hb with
      | cons hb1 hb2 =>
        have hxy : x = y := by
          have h1 := (h x).1 (by simp)
          have h2 := (h y).2 (by simp)
          rcases List.mem_cons.1 h1 with h1 | h1
          · exact h1
          · rcases List.mem_cons.1 h2 with h2 | h2
            · exact h2.symm
            · have := ha1 _ h2; have := hb1 _ h1; omega
        subst hxy
        rw [sorted_ext a b ha2 hb2 (fun z => ?_)]
        have hz := h z
        simp only [List.mem_cons] at hz
        constructor
        · intro hza
          rcases hz.1 (.inr hza) with e | e
          · have := ha1 _ hza; omega
          · exact e
        · intro hzb
          rcases hz.2 (.inr hzb) with e | e
          · have := hb1 _ hzb; omega
          · exact e
theorem Good.alv_end {o : List S55} {m : Nat} {l : List Int} (h : Good o m l) : alv (lvs o) 0 ((o.length : Int) - 1) = l := by
  refine sorted_ext _ _ (alv_sorted _ _ _) h.sorted fun x => ?_
  rw [mem_alv]
  constructor
  · rintro ⟨j, L, h1, rfl, h3, h4⟩
    have K := h.life j L h1
    have h2 := K.live.1 (by have := K.dn; omega)
    rw [show (0 : Int) + j + 1 = ((j + 1 : Nat) : Int) by omega]
    exact h2
  · intro hx
    have hr := h.range x hx
    have hl := h.lvs_length
    obtain ⟨L, hL⟩ : ∃ L, (lvs o)[(x - 1).toNat]? = some L := ⟨_, List.getElem?_eq_getElem (by omega)⟩
    have K := h.life _ L hL
    have h2 := K.live.2 (by rw [show (((x - 1).toNat + 1 : Nat) : Int) = x by omega]; exact hx)
    exact ⟨_, L, hL, by omega, by have := K.un; have := K.used; omega, .inl h2⟩
theorem Good.alv_snoc {o : List S55} {m m' : Nat} {l l' : List Int} {e : S55} (h : Good o m l) (k : Int) (hk : k < o.length) (h' : Good (o ++ [e]) m' l') : alv (lvs (o ++ [e])) 0 k = alv (lvs o) 0 k := by
  have hst := h'.step o.length (by simp)
  obtain ⟨e', m1, l1, h1, h2, h3, h4, h5⟩ := hst
  obtain ⟨t1, t2, t3⟩ := @take_end o e
  rw [t3] at h1
  injection h1 with h1
  subst h1
  rw [t1] at h3
  have hl := h.lvs_length
  have hl1 := h3.lvs_length
  obtain rfl : m1 = m := by omega
  rw [lvs_snoc]
  rcases h5 with ⟨hs, _, _, _⟩ | ⟨hs, hn, _⟩ | ⟨hs, hn, _⟩
  · rw [lvset1_43 hs, alv_append]
    simp only [alv]
    rw [if_neg (by omega), List.append_nil]
  · have hr := h3.range _ hn
    rw [lvset1_46 hs]
    obtain ⟨L, hL⟩ : ∃ L, (lvs o)[(e.f1 - 1).toNat]? = some L := ⟨_, List.getElem?_eq_getElem (by omega)⟩
    have hrd := rd_get hL
    rw [show (((e.f1 - 1).toNat : Nat) : Int) = e.f1 - 1 by omega] at hrd
    rw [hrd]
    exact alv_set k _ _ _ _ L hL Iff.rfl
  · have hr := h3.range _ hn
    rw [lvset1_45 hs]
    obtain ⟨L, hL⟩ : ∃ L, (lvs o)[(e.f1 - 1).toNat]? = some L := ⟨_, List.getElem?_eq_getElem (by omega)⟩
    have hrd := rd_get hL
    rw [show (((e.f1 - 1).toNat : Nat) : Int) = e.f1 - 1 by omega] at hrd
    rw [hrd]
    have K := h3.life _ L hL
    have h2 := K.live.2 (by rw [show (((e.f1 - 1).toNat + 1 : Nat) : Int) = e.f1 by omega]; exact hn)
    exact alv_set k _ _ _ _ L hL ⟨fun h => ⟨h.1, .inl h2⟩, fun h => ⟨h.1, .inr hk⟩⟩
theorem Good.alv_take {o : List S55} {m : Nat} {l : List Int} (h : Good o m l) : ∀ (i : Nat) (m' : Nat) (l' : List Int), i ≤ o.length → Good (o.take i) m' l' → alv (lvs o) 0 ((i : Int) - 1) = l' := by
  have gen : ∀ (o : List S55) (m : Nat) (l : List Int), Good o m l → (∀ (i : Nat) (m' : Nat) (l' : List Int), i < o.length → Good (o.take i) m' l' → alv (lvs o) 0 ((i : Int) - 1) = l') → ∀ (i : Nat) (m' : Nat) (l' : List Int), i ≤ o.length → Good (o.take i) m' l' → alv (lvs o) 0 ((i : Int) - 1) = l' := by
    intro o m l g hlt i m' l' hi g'
    by_cases h : i < o.length
    · exact hlt i m' l' h g'
    · obtain rfl : i = o.length := by omega
      rw [List.take_length] at g'
      exact g'.alv_end
  have main : ∀ (o : List S55) (m : Nat) (l : List Int) (e : S55) (m2 : Nat) (l2 : List Int), Good o m l → Good (o ++ [e]) m2 l2 → (∀ (i : Nat) (m' : Nat) (l' : List Int), i ≤ o.length → Good (o.take i) m' l' → alv (lvs o) 0 ((i : Int) - 1) = l') → ∀ (i : Nat) (m' : Nat) (l' : List Int), i < (o ++ [e]).length → Good ((o ++ [e]).take i) m' l' → alv (lvs (o ++ [e])) 0 ((i : Int) - 1) = l' := by
    intro o m l e m2 l2 g g2 ih i m' l' hi g'
    simp at hi
    rw [List.take_append_of_le_length (by omega)] at g'
    rw [g.alv_snoc _ (by omega) g2]
    exact ih i m' l' (by omega) g'
  induction h with
  | nil => exact gen _ _ _ .nil (by intro i m' l' hi; simp at hi)
  | make g hs ih => exact gen _ _ _ (g.make hs) (main _ _ _ _ _ _ g (g.make hs) ih)
  | use g hs hn ih => exact gen _ _ _ (g.use hs hn) (main _ _ _ _ _ _ g (g.use hs hn) ih)
  | kill g hs hn ih => exact gen _ _ _ (g.kill hs hn) (main _ _ _ _ _ _ g (g.kill hs hn) ih)
theorem Good.uniq {o : List S55} {m m' : Nat} {l l' : List Int} (h : Good o m l) (h' : Good o m' l') : m = m' ∧ l = l' :=
  ⟨h.lvs_length.symm.trans h'.lvs_length, h.alv_end.symm.trans h'.alv_end⟩
end Go.Proofs.YtndjbnkmhpbnpaaGreatDoor.Pr
namespace Go.Proofs.YtndjbnkmhpbnpaaGreatDoor.Pr
open Go.RowKit Go.Proofs.YtndjbnkmhpbnpaaGreatDoorW.PrintWords Go.Proofs.YtndjbnkmhpbnpaaGreatDoorW.PrintLast
def strconv_Itoa.f (a0 : Int) : Option (ByteArray) := if -9223372036854775808 ≤ a0 ∧ a0 ≤ 9223372036854775807 then some ⟨(Lib.itoa a0).toArray⟩ else none
theorem strconv_Itoa.calls (a0 : Int) (r : ByteArray) (w : World) (hLd : LaidT w) (h : strconv_Itoa.f a0 = some r) :
  Calls Tryz.prog 52 #[.int .i64 a0] w fun e w' => e = .returned (.string r) ∧ Below w.heap.size w w' := by
 unfold strconv_Itoa.f at h
 split at h
 ·rename_i hb
  injection h with h
  subst h
  refine (Tryz.strconv_Itoa a0 hb.1 hb.2 w hLd.tab).mono ?_
  rintro e w' ⟨rfl, k, os, rfl⟩
  exact ⟨rfl, Go.Lib.below_grow _ w (Nat.le_refl _) k os⟩
 ·cases h
structure Tst where
  out : List S55
  made : Int
  live : List Int
def sgn (s : ByteArray) : ByteArray := s.extract 0 1
def dig (s : ByteArray) : ByteArray := s.extract 1 s.size
def numOf (s : ByteArray) : Option Int := match Lib.atoiAll (dig s).data.toList with
  | .ok n => if Lib.itoa n = (dig s).data.toList then some n else none
  | _ => none
def tsign (st : Tst) (s : ByteArray) (n : Int) : Option Tst :=
  if (sgn s).toList = [43] ∧ n = st.made + 1 then some ⟨st.out ++ [⟨sgn s, n⟩], st.made + 1, st.live ++ [n]⟩
  else if (sgn s).toList = [46] ∧ n ∈ st.live then some ⟨st.out ++ [⟨sgn s, n⟩], st.made, st.live⟩
  else if (sgn s).toList = [45] ∧ n ∈ st.live then some ⟨st.out ++ [⟨sgn s, n⟩], st.made, st.live.filter (fun y => y != n)⟩
  else none
def tstep (st : Tst) (s : ByteArray) : Option Tst :=
  if s.size = 0 then none else match numOf s with
    | none => none
    | some n => if st.out.length = 600 then none else tsign st s n
def tloop : List ByteArray → Tst → Option Tst
  | [], st => some st
  | s :: r, st => match tstep st s with
    | none => none
    | some st' => tloop r st'
def pieces (a0 : ByteArray) : List ByteArray := Lib.splitB ⟨#[32]⟩ 0 (Lib.countB a0 ⟨#[32]⟩) a0
def toldOf (a0 : ByteArray) : List S55 × Int × Bool :=
  if a0.toList = [45] then ([], 0, true) else match tloop (pieces a0) ⟨[], 0, []⟩ with
    | none => ([], 0, false)
    | some st => (st.out, st.made, true)
def impl_told.f (a0 : ByteArray) : Option ((List (S55)) × Int × Bool) := if a0.size ≤ 1048576 then some (toldOf a0) else none
structure TIn (w0 : World) (B g n : Nat) (ws : List ByteArray) (v : Value) (out : List S55) (live : List Int) (wr : World) : Prop where
  below : Below w0.heap.size w0 wr
  map : AliveMap wr B n live
  baseB : w0.heap.size ≤ B
  row : Kd.R k55 55 wr w0.heap.size (fun _ => True) v out
  words : wr.heap[g]? = some (.cells (ws.map Value.string).toArray 9 (0, 0))
  baseg : w0.heap.size ≤ g
section
variable {w0 wr w' : World} {B g n : Nat} {ws : List ByteArray} {v v' : Value} {out : List S55} {live : List Int}
theorem TIn.on (h : TIn w0 B g n ws v out live wr) (hb : Below wr.heap.size wr w') : TIn w0 B g n ws v out live w' :=
  ⟨h.below.trans (hb.mono h.below.size), h.map.kept (hb.block _ h.map.lt), h.baseB, Kd.Rb h.row hb, (hb.block _ (blk_lt h.words)).trans h.words, h.baseg⟩
theorem TIn.ne (h : TIn w0 B g n ws v out live wr) : some B ≠ v.ownBlock ∧ some g ≠ v.ownBlock ∧ B ≠ g := by
  obtain ⟨es, clock, hm⟩ := h.map.isMapObj
  refine ⟨fun e => ?_, fun e => ?_, fun e => ?_⟩
  · obtain ⟨cells, hc⟩ := Kd.R_typed h.row B e.symm
    rw [hm] at hc
    cases hc
  · obtain ⟨cells, hc⟩ := Kd.R_typed h.row g e.symm
    rw [h.words] at hc
    injection hc with hc
    injection hc with _ hc
    cases hc
  · subst e
    have := h.words
    rw [hm] at this
    cases this
theorem TIn.mapped (h : TIn w0 B g n ws v out live wr) {live' : List Int} {n' : Nat} (hm : AliveMap w' B n' live') (hg : wr.grownBy w' (some B)) : TIn w0 B g n' ws v out live' w' := by
  obtain ⟨h1, h2, h3⟩ := h.ne
  refine ⟨h.below.trans ⟨hg.os, hg.tape, hg.output, hg.size, fun k hk => hg.block k (Nat.lt_of_lt_of_le hk h.below.size) (fun e => by injection e with e; have := h.baseB; omega)⟩, hm, h.baseB, ?_, ?_, h.baseg⟩
  · exact Kd.R_mono (Kd.R_grown (Kd.R_tight rfl h.row) hg (fun k hk e => h1 (e.symm.trans hk))) (fun _ _ => trivial)
  · exact (hg.block g (blk_lt h.words) (fun e => h3 (by injection e with e; exact e.symm))).trans h.words
theorem TIn.listed (h : TIn w0 B g n ws v out live wr) {W : World} {x : S55} (hW : TIn w0 B g n ws v out live W) (hr : Kd.R k55 55 w' w0.heap.size (fun _ => True) v' (out ++ [x])) (hb : Below w0.heap.size w0 w') (hg : W.grownBy w' v.ownBlock) : TIn w0 B g n ws v' (out ++ [x]) live w' := by
  obtain ⟨h1, h2, h3⟩ := hW.ne
  exact ⟨hb, hW.map.kept (hg.block _ hW.map.lt h1), h.baseB, hr, (hg.block _ (blk_lt hW.words) h2).trans hW.words, h.baseg⟩
end
def TRel (w0 : World) (B g : Nat) (ws : List ByteArray) (v5 v6 v22 : Value) (wr : World) : Prop :=
  ∃ (k : Nat) (st : Tst) (m : Nat), k ≤ ws.length ∧ v22 = .int .i64 k ∧ v6 = .int .i64 st.made ∧ tloop ws ⟨[], 0, []⟩ = tloop (ws.drop k) st ∧ st.out.length ≤ 600 ∧ 0 ≤ st.made ∧ st.made ≤ st.out.length ∧ m ≤ st.out.length ∧ TIn w0 B g m ws v5 st.out st.live wr
theorem split_any (s : ByteArray) (w : World) (hLd : LaidW w) (hs : s.size ≤ 1048576) : Calls Tryz.prog 74 #[.string s, .string ⟨#[32]⟩] w fun e w' =>
    e = .returned (.slice (some ⟨w.heap.size, 0, none⟩) (Lib.countB s ⟨#[32]⟩ + 1) (Lib.countB s ⟨#[32]⟩ + 1)) ∧ w' = w.alloc (.cells ((pieces s).map Value.string).toArray 9) := by
  obtain ⟨m, hm⟩ := hLd.mlen
  exact Go.Proofs.Any.strings_Split { Tryz.laysM146 with } Tryz.laysM146.i9 s ⟨#[32]⟩ m w (by omega) hm (by decide)
theorem pieces_length (s : ByteArray) : (pieces s).length = Lib.countB s ⟨#[32]⟩ + 1 := Lib.splitB_all ⟨#[32]⟩ (by decide) 0 _ s rfl
def ToldPost (a0 : ByteArray) (w : World) (e : Ending) (w' : World) : Prop := ∃ v0_ : Value, e = .returned (.tuple #[v0_, .int .i64 (toldOf a0).2.1, .bool (toldOf a0).2.2]) ∧ Kd.R k55 55 w' w.heap.size (fun _ => True) v0_ (toldOf a0).1 ∧ Below w.heap.size w w'
theorem row_made (w : World) (base : Nat) (hb : base ≤ w.heap.size) : Kd.R k55 55 (w.alloc (.cells #[] 55)) base (fun _ => True) (.slice (some ⟨w.heap.size, 0, none⟩) 0 0) [] :=
  ⟨fun _ _ => trivial, [], World.ownsRow_made w #[] 0 hb (by simp [maxLen]) rfl, Reps.none _ _⟩
theorem below_a {w : World} (o : Obj) : Below w.heap.size w (w.alloc o) := (Below.refl _ w).alloc (Nat.le_refl _) o
theorem told_start (w : World) (ws : List ByteArray) : TIn w (w.heap.size + 1) (w.heap.size + 2) 0 ws (.slice (some ⟨w.heap.size, 0, none⟩) 0 0) [] [] (((w.alloc (.cells #[] 55)).alloc (.map #[] 0)).alloc (.cells (ws.map Value.string).toArray 9)) := by
  have h1 := below_a (w := w) (.cells #[] 55)
  have h2 := below_a (w := w.alloc (.cells #[] 55)) (.map #[] 0)
  have h3 := below_a (w := (w.alloc (.cells #[] 55)).alloc (.map #[] 0)) (.cells (ws.map Value.string).toArray 9)
  have hs1 : (w.alloc (.cells #[] 55)).heap.size = w.heap.size + 1 := by simp
  have hs2 : ((w.alloc (.cells #[] 55)).alloc (.map #[] 0)).heap.size = w.heap.size + 2 := by simp
  have hm := AliveMap.start (w.alloc (.cells #[] 55))
  rw [hs1] at hm
  have hw := heap_alloc_new ((w.alloc (.cells #[] 55)).alloc (.map #[] 0)) (.cells (ws.map Value.string).toArray 9)
  rw [hs2] at hw
  exact ⟨(h1.trans (h2.mono h1.size)).trans (h3.mono (Nat.le_trans h1.size h2.size)), hm.kept (h3.block _ (by rw [hs2]; omega)), by omega, Kd.Rb (Kd.Rb (row_made w _ (Nat.le_refl _)) h2) h3, hw, by omega⟩
theorem words_at {w : World} {g : Nat} {ws : List ByteArray} (h : w.heap[g]? = some (.cells (ws.map Value.string).toArray 9 (0, 0))) {k : Nat} (hk : k < ws.length) : w.cell? ⟨g, k, none⟩ = some (.string ws[k]) := by
  rw [blk_cell h]
  simp [hk]
theorem tloop_drop {ws : List ByteArray} {k : Nat} (hk : k < ws.length) (st : Tst) : tloop (ws.drop k) st = match tstep st ws[k] with | none => none | some st' => tloop (ws.drop (k + 1)) st' := by
  rw [List.drop_eq_getElem_cons hk, tloop]
theorem tloop_end {ws : List ByteArray} {k : Nat} (hk : k = ws.length) (st : Tst) : tloop (ws.drop k) st = some st := by
  rw [hk, List.drop_length, tloop]
theorem told_no {a0 : ByteArray} {w W : World} (h : toldOf a0 = ([], 0, false)) (hb : Below w.heap.size w W) : ToldPost a0 w (.returned (.tuple #[.slice none 0 0, .int .i64 0, .bool false])) W :=
  ⟨.slice none 0 0, by rw [h], by rw [h]; exact Kd.R_nil _ _ _ _ _, hb⟩
theorem empty_size {s : ByteArray} : s.toList.isEmpty = decide (s.size = 0) := by
  rw [Lib.toList_data]
  have h : s.data.toList.length = s.size := Array.length_toList
  cases hs : s.data.toList with
  | nil => rw [hs] at h; simp at h; simp [← h]
  | cons a l => rw [hs] at h; simp at h; simp [← h]
theorem splitB_sizes (sep : ByteArray) : ∀ (k : Nat) (s x : ByteArray), x ∈ Lib.splitB sep 0 k s → x.size ≤ s.size
  | 0, s, x, h => by
    simp [Lib.splitB] at h
    rw [h]
    exact Nat.le_refl _
  | k + 1, s, x, h => by
    unfold Lib.splitB at h
    split at h
    · simp at h
      rw [h]
      exact Nat.le_refl _
    · rcases List.mem_cons.1 h with h | h
      · rw [h, ByteArray.size_extract]
        omega
      · have := splitB_sizes sep k _ x h
        rw [ByteArray.size_extract] at this
        omega
theorem pieces_size {a0 x : ByteArray} (h : x ∈ pieces a0) : x.size ≤ a0.size := splitB_sizes _ _ _ _ h
def AtoiPost (s : ByteArray) (w : World) (e : Ending) (w' : World) : Prop := Below w.heap.size w w' ∧
  ((∃ n, Lib.atoiAll s.data.toList = .ok n ∧ e = .returned (.tuple #[.int .i64 n, .nilIface])) ∨
   (∃ m te pe, (∀ n, Lib.atoiAll s.data.toList ≠ .ok n) ∧ e = .returned (.tuple #[.int .i64 m, .iface te pe])))
theorem atoi_any (s : ByteArray) (w : World) (hLd : LaidW w) (hs : s.size ≤ 1048576) : Calls Tryz.prog 75 #[.string s] w (AtoiPost s w) := by
  cases h : Lib.atoiAll s.data.toList with
  | ok n =>
    refine (Tryz.strconv_Atoi_ok s (by omega) n h w).mono ?_
    rintro e w' ⟨rfl, hw⟩
    refine ⟨?_, .inl ⟨n, h, rfl⟩⟩
    rcases hw with rfl | ⟨t, rfl⟩
    · exact Below.refl _ _
    · exact bytes_below (Below.refl _ w) (Nat.le_refl _) _ _
  | «syntax» =>
    obtain ⟨tp, p, hv⟩ := hLd.syn
    refine (Tryz.strconv_Atoi_syntax_var s (by omega) h tp p w hv).mono ?_
    rintro e w' ⟨N, rfl, _, _, hb⟩
    exact ⟨hb, .inr ⟨_, _, _, (fun n hn => nomatch (h.symm.trans hn)), rfl⟩⟩
  | range =>
    obtain ⟨tp, p, hv⟩ := hLd.ran
    refine (Tryz.strconv_Atoi_range_var s (by omega) h tp p w hv).mono ?_
    rintro e w' ⟨N, rfl, _, _, hb⟩
    exact ⟨hb, .inr ⟨_, _, _, (fun n hn => nomatch (h.symm.trans hn)), rfl⟩⟩
theorem itoa_any (n : Int) (hn : (Lit.int .i64 n).wf = true) (w : World) (hLd : LaidW w) : Calls Tryz.prog 52 #[.int .i64 n] w fun e w' => ∃ b : ByteArray, Hid (b.toList = Lib.itoa n) ∧ e = .returned (.string b) ∧ Below w.heap.size w w' := by
  have h : -9223372036854775808 ≤ n ∧ n ≤ 9223372036854775807 := by
    have e1 : IntKind.i64.min = -9223372036854775808 := rfl
    have e2 : IntKind.i64.max = 9223372036854775807 := rfl
    simpa [Lit.wf, e1, e2] using hn
  refine (strconv_Itoa.calls n _ w hLd.toLaidT (by unfold strconv_Itoa.f; rw [if_pos h])).mono ?_
  rintro e w' ⟨rfl, hb⟩
  exact ⟨⟨(Lib.itoa n).toArray⟩, Lib.hid (by rw [Lib.toList_data]), rfl, hb⟩
theorem itoa_eq {n : Int} {b s : ByteArray} (hb : Hid (b.toList = Lib.itoa n)) (h : Lib.itoa n = (dig s).data.toList) : (b.toList == (s.extract 1 s.size).toList) = true := by
  rw [hb.out, Lib.toList_data]; exact beq_iff_eq.2 h
theorem itoa_neq {n : Int} {b s : ByteArray} (hb : Hid (b.toList = Lib.itoa n)) (h : ¬ Lib.itoa n = (dig s).data.toList) : (b.toList == (s.extract 1 s.size).toList) = false := by
  rw [hb.out, Lib.toList_data]; exact beq_eq_false_iff_ne.2 h
theorem below_dr (w : World) : Below w.heap.size w w.drew := ⟨rfl, rfl, rfl, Nat.le_refl _, fun _ _ => rfl⟩
theorem numOf_ok {s : ByteArray} {n : Int} (h : Lib.atoiAll (dig s).data.toList = .ok n) : numOf s = if Lib.itoa n = (dig s).data.toList then some n else none := by unfold numOf; rw [h]
theorem numOf_no {s : ByteArray} (h : ∀ n, Lib.atoiAll (dig s).data.toList ≠ .ok n) : numOf s = none := by
  unfold numOf
  split
  · rename_i n hn; exact absurd hn (h n)
  · rfl
theorem put1 {T : Array Value} {D : List Deferred} {n : Nat} {v : Value} : (⟨T, D⟩ : Act).put (some n) v = ⟨T.setIfInBounds n v, D⟩ := rfl
theorem put7 {Q : Exit → Act → World → Prop} {T : Array Value} {D : List Deferred} {w : World} {d1 d2 d3 d4 d5 d6 d7 : Option Nat} {v1 v2 v3 v4 v5 v6 v7 : Value} {n1 n2 n3 n4 n5 n6 n7 : Nat} (h1 : d1 = some n1) (h2 : d2 = some n2) (h3 : d3 = some n3) (h4 : d4 = some n4) (h5 : d5 = some n5) (h6 : d6 = some n6) (h7 : d7 = some n7)
    (h : Q .normal ⟨((((((T.setIfInBounds n1 v1).setIfInBounds n2 v2).setIfInBounds n3 v3).setIfInBounds n4 v4).setIfInBounds n5 v5).setIfInBounds n6 v6).setIfInBounds n7 v7, D⟩ w) : Q .normal ((((((((⟨T, D⟩ : Act).put d1 v1).put d2 v2).put d3 v3).put d4 v4).put d5 v5).put d6 v6).put d7 v7) w := by
  subst h1 h2 h3 h4 h5 h6 h7
  simp only [put1]
  exact h
set_option maxHeartbeats 40000000 in
set_option maxRecDepth 1000000 in
theorem told_any (a0 : ByteArray) (w : World) (hLd : LaidW w) (hs : a0.size ≤ 1048576) : Calls Tryz.prog 50 #[.string a0] w (ToldPost a0 w) := by
  have hmm := @run_makeMap Tryz.prog
  have HLd := Lib.hid hLd
  clear hLd
  by_cases h0 : a0.toList = [45]
  · have g0 : (a0.toList == [45]) = true := by rw [h0]; rfl
    have HT := Lib.hid (show toldOf a0 = ([], 0, true) by unfold toldOf; rw [if_pos h0])
    clear h0
    go_enter Tryz.func50, Tryz.ntmps50
    go_wp2_with fail
    go_ret3
    exact ⟨_, by rw [HT.out]; rfl, by rw [HT.out]; exact row_made w _ (Nat.le_refl _), below_a _⟩
  · have g0 : (a0.toList == [45]) = false := by simpa using h0
    have HT := Lib.hid (show toldOf a0 = (match tloop (pieces a0) ⟨[], 0, []⟩ with | none => ([], 0, false) | some st => (st.out, st.made, true)) by unfold toldOf; rw [if_neg h0])
    have hpl := pieces_length a0
    have HPL := Lib.hid hpl
    have hsz := Lib.countB_le ⟨#[32]⟩ (by decide) a0.size a0 (Nat.le_refl _)
    have hlen : (pieces a0).length ≤ 1048577 := by omega
    clear h0 hpl
    go_enter Tryz.func50, Tryz.ntmps50
    go_wp2_with fail
    have h2 := below_a (w := w.alloc (.cells #[] 55)) (.map #[] 0)
    have hld := (HLd.out.below (below_a (.cells #[] 55))).below h2
    refine (split_any a0 _ hld hs).mono ?_
    rintro e w' ⟨rfl, rfl⟩
    rw [← HPL.out]
    have HS := Lib.hid (told_start w (pieces a0))
    clear h2 hld hsz
    have hws := Lib.hid (fun x (hx : x ∈ pieces a0) => Nat.le_trans (pieces_size hx) hs)
    generalize pieces a0 = ws at *
    generalize ((w.alloc (.cells #[] 55)).alloc (.map #[] 0)).alloc (.cells (ws.map Value.string).toArray 9) = W3 at *
    go_wp2_with fail
    go_loopw [5, 6, 22] (fun v5 v6 v22 wr => TRel w (w.heap.size + 1) (w.heap.size + 2) ws v5 v6 v22 wr) (fun _ _ v22 _ => ws.length - (intOf v22).toNat)
    case atStart => exact ⟨0, ⟨[], 0, []⟩, 0, Nat.zero_le _, rfl, rfl, rfl, Nat.zero_le _, Int.le_refl _, Int.le_refl _, Nat.le_refl _, HS.out⟩
    case round =>
      clear HS
      obtain ⟨k, st, mk, hk, rfl, rfl, hT, hl6, hm0, hm1, hmk, hI⟩ := hrel
      obtain ⟨vo, rfl⟩ : ∃ vo : Value, vo = u5 := ⟨_, rfl⟩
      obtain ⟨Ao, co, rfl⟩ := Kd.R_slice hI.row
      have HTl := Lib.hid hT
      have HI := Lib.hid hI
      clear hT
      by_cases hlt : k < ws.length
      · have hc := words_at hI.words hlt
        clear hI
        have HD := Lib.hid (tloop_drop hlt st)
        have hss := hws.out _ (List.getElem_mem hlt)
        generalize ws[k] = s at *
        by_cases hs0 : s.size = 0
        · have he : s.toList.isEmpty = true := by rw [empty_size]; simpa using hs0
          have HF := Lib.hid (show toldOf a0 = ([], 0, false) by rw [HT.out, HTl.out, HD.out]; unfold tstep; rw [if_pos hs0])
          clear hs0
          go_wp2_with fail
          go_ret3
          exact told_no HF.out HI.out.below
        · have he : s.toList.isEmpty = false := by rw [empty_size]; simpa using hs0
          have b1 : 1 ≤ s.size := by omega
          have b2 : (1 : Int) ≤ (s.size : Int) := by omega
          have HS0 := Lib.hid hs0
          clear hs0
          go_wp2_with fail
          have hba := below_a (w := wr) (.cells #[.string (s.extract 0 1), .int .i64 0] 55)
          have hE := heap_alloc_new wr (.cells #[.string (s.extract 0 1), .int .i64 0] 55)
          have hld := HLd.out.below (HI.out.below.trans (hba.mono HI.out.below.size))
          refine (atoi_any (dig s) _ hld (by unfold dig; rw [ByteArray.size_extract]; omega)).mono ?_
          rintro e wA ⟨hbA, h⟩
          have hBA := hba.trans (hbA.mono hba.size)
          have hEA := (hbA.block _ (blk_lt hE)).trans hE
          have hldA := hld.below hbA
          rcases h with ⟨n, hok, rfl⟩ | ⟨m, te, pe, hno, rfl⟩
          · have hw := Lib.atoiAll_bounds hok
            have hnw : (Lit.int .i64 n).wf = true := by
              have e1 : IntKind.i64.min = -9223372036854775808 := rfl
              have e2 : IntKind.i64.max = 9223372036854775807 := rfl
              simpa [Lit.wf, e1, e2] using hw
            have HN := Lib.hid (numOf_ok hok)
            clear hok
            have HBA := Lib.hid hBA
            have HEA := Lib.hid hEA
            have hnq : ∀ (W : World) (n' : Nat), (binOp .neq 81 .nilIface .nilIface).run Tryz.prog (W.drewN n') = .ok (.bool false) (W.drewN n') := fun _ _ => rfl
            clear hba hE hld hbA hBA hEA
            by_cases hit : Lib.itoa n = (dig s).data.toList
            · have HQ := Lib.hid (fun (b : ByteArray) (hb : Hid (b.toList = Lib.itoa n)) => itoa_eq (s := s) hb hit)
              by_cases h600 : st.out.length = 600
              · have hl : ((st.out.length : Int) == 600) = true := by simp [h600]
                have HF := Lib.hid (show toldOf a0 = ([], 0, false) by rw [HT.out, HTl.out, HD.out]; unfold tstep; rw [if_neg HS0.out, HN.out, if_pos hit]; simp only []; rw [if_pos h600])
                clear hit h600
                go_wp2_with fail
                first | go_region_with (go_at_call 52; refine (itoa_any n hnw _ (hldA.below (below_dr _))).mono ?_; rintro e wI ⟨bI, hI, rfl, hbI⟩; have hq := HQ.out bI hI) | fail
                clear hq hI HQ
                refine put7 rfl rfl rfl rfl rfl rfl rfl ?_
                simp only [List.setIfInBounds_toArray, List.set_cons_succ, List.set_cons_zero]
                go_wp2_with fail
                go_ret3
                exact told_no HF.out (HI.out.below.trans ((HBA.out.trans (((below_dr _).trans (hbI.mono (Nat.le_refl _))).mono HBA.out.size)).mono HI.out.below.size))
              · have hl : ((st.out.length : Int) == 600) = false := by simpa using (fun h => h600 (by omega))
                have HN' := Lib.hid (show tstep st s = tsign st s n by unfold tstep; rw [if_neg HS0.out, HN.out, if_pos hit]; simp only []; rw [if_neg h600])
                have hl7 : st.out.length + 1 ≤ 600 := by omega
                clear hit h600 HN
                go_wp2_with fail
                first | go_region_with (go_at_call 52; refine (itoa_any n hnw _ (hldA.below (below_dr _))).mono ?_; rintro e wI ⟨bI, hI, rfl, hbI⟩; have hq := HQ.out bI hI) | fail
                clear hq hI HQ
                refine put7 rfl rfl rfl rfl rfl rfl rfl ?_
                simp only [List.setIfInBounds_toArray, List.set_cons_succ, List.set_cons_zero]
                have hEI := ((below_dr _).trans (hbI.mono (Nat.le_refl _))).block _ (blk_lt HEA.out) |>.trans HEA.out
                have hBI : Below wr.heap.size wr wI := HBA.out.trans (((below_dr _).trans (hbI.mono (Nat.le_refl _))).mono HBA.out.size)
                have c0 : wI.cell? ⟨wr.heap.size, 0, none⟩ = some (.string (s.extract 0 1)) := (blk_cell hEI 0).trans rfl
                have c1 : wI.cell? ⟨wr.heap.size, 1, none⟩ = some (.int .i64 0) := (blk_cell hEI 1).trans rfl
                have f0 := blk_frozen hEI 0
                have f1 := blk_frozen hEI 1
                have HE4 := Lib.hid (blk_put (cs' := #[.string (s.extract 0 1), .int .i64 n]) hEI 1 (.int .i64 n) rfl)
                have HB4 := Lib.hid (below_set (j := 1) (v := .int .i64 n) hBI (Nat.le_refl _))
                clear hEI hBI hbI hldA
                go_upto_region 16 with fail
                clear c0 c1 f0 f1
                obtain ⟨W4, hW4⟩ : ∃ W4, W4 = (wI.setCell ⟨wr.heap.size, 1, none⟩ (.int .i64 n)) := ⟨_, rfl⟩
                rw [← hW4] at HE4 HB4 ⊢
                clear hW4
                have hE4 := HE4.out
                have d0 : W4.cell? ⟨wr.heap.size, 0, none⟩ = some (.string (s.extract 0 1)) := (blk_cell hE4 0).trans rfl
                have d1 : W4.cell? ⟨wr.heap.size, 1, none⟩ = some (.int .i64 n) := (blk_cell hE4 1).trans rfl
                have HI4 := Lib.hid (HI.out.on HB4.out)
                have hlk := HI4.out.map.look hnw
                have HFail := Lib.hid (fun (h : tsign st s n = none) => show toldOf a0 = ([], 0, false) by rw [HT.out, HTl.out, HD.out, HN'.out, h])
                have HGo := Lib.hid (fun (st' : Tst) (h : tsign st s n = some st') => show tloop ws ⟨[], 0, []⟩ = tloop (ws.drop (k + 1)) st' by rw [HTl.out, HD.out, HN'.out, h])
                clear hE4
                by_cases h1 : (sgn s).toList = [43] ∧ n = st.made + 1
                · have hb1 : ((s.extract 0 1).toList == [43]) = true := beq_iff_eq.2 h1.1
                  have hb2 : (n == st.made + 1) = true := beq_iff_eq.2 h1.2
                  have HS := Lib.hid (show tsign st s n = some ⟨st.out ++ [⟨sgn s, n⟩], st.made + 1, st.live ++ [n]⟩ by unfold tsign; rw [if_pos h1])
                  have hm4 := HI4.out.map
                  clear h1 hlk
                  go_wp2_with (first | (at_mapUpdate; refine wpList_born rfl _ _ _ rfl rfl hm4 (by omega) n rfl rfl hnw ?_; intro W5 hm5 hg5; have HI5 := Lib.hid (HI4.out.mapped hm5 hg5); have hE5 := blk_grown HE4.out hg5 (fun e => by injection e with e; have := HI.out.map.lt; omega); have e0 : W5.cell? ⟨wr.heap.size, 0, none⟩ = some (.string (s.extract 0 1)) := (blk_cell hE5 0).trans rfl; have e1 : W5.cell? ⟨wr.heap.size, 1, none⟩ = some (.int .i64 n) := (blk_cell hE5 1).trans rfl; clear hE5 hm4 hm5 hg5 d0 d1) | (at_builtin; refine Kd.R_append k55 (w0 := w) w.heap.size rfl _ _ 50 55 (.agg #[(.string ⟨#[]⟩), (.int .i64 0)]) 24 rfl Tryz.underlying50 info55 rfl (by decide) (by omega) (.slice Ao st.out.length co) st.out (⟨s.extract 0 1, n⟩ : S55) [.string (s.extract 0 1), .int .i64 n] (fun _ => True) (fun _ => False) rfl rfl (k55_mkM _ _ _ (⟨s.extract 0 1, n⟩ : S55)) (fun _ hk => hk.elim) (fun _ _ => trivial) HI5.out.row HI5.out.below HI5.out.below.size (by omega) ?_; intro v6 W6 ho6 hb6 hg6 _; have HI6 := Lib.hid (HI5.out.listed HI5.out ho6 hb6 hg6); clear ho6 hb6 hg6))
                  go_roundw
                  case rel => exact ⟨k + 1, (⟨st.out ++ [⟨sgn s, n⟩], st.made + 1, st.live ++ [n]⟩ : Tst), _, hlt, by go_num, rfl, HGo.out _ HS.out, (by simp only [List.length_append, List.length_singleton]; omega), (by dsimp only; omega), (by simp only [List.length_append, List.length_singleton]; omega), (by simp only [List.length_append, List.length_singleton]; omega), HI6.out⟩
                  case measure => simp [intOf]; omega
                · by_cases s43 : (sgn s).toList = [43]
                  · have hb43 : ((s.extract 0 1).toList == [43]) = true := beq_iff_eq.2 s43
                    have hb46 : ((s.extract 0 1).toList == [46]) = false := by rw [show s.extract 0 1 = sgn s from rfl, s43]; rfl
                    have hb45 : ((s.extract 0 1).toList == [45]) = false := by rw [show s.extract 0 1 = sgn s from rfl, s43]; rfl
                    have hb2 : (n == st.made + 1) = false := beq_eq_false_iff_ne.2 (fun e => h1 ⟨s43, e⟩)
                    have HF := Lib.hid (HFail.out (by unfold tsign; rw [if_neg h1, if_neg (fun h => by rw [s43] at h; exact absurd h.1 (by decide)), if_neg (fun h => by rw [s43] at h; exact absurd h.1 (by decide))]))
                    clear s43 h1 hlk
                    go_wp2_with fail
                    go_ret3
                    exact told_no HF.out HI4.out.below
                  · have hb43 : ((s.extract 0 1).toList == [43]) = false := beq_eq_false_iff_ne.2 s43
                    by_cases s46 : (sgn s).toList = [46]
                    · have hb46 : ((s.extract 0 1).toList == [46]) = true := beq_iff_eq.2 s46
                      have hb45 : ((s.extract 0 1).toList == [45]) = false := by rw [show s.extract 0 1 = sgn s from rfl, s46]; rfl
                      by_cases hliv : n ∈ st.live
                      · have hlk1 : (Instr.lookup 71 (.map (some (w.heap.size + 1))) (.int .i64 n) false).run Tryz.prog W4 = .ok (.bool true) W4 := by rw [hlk, decide_eq_true hliv]
                        have HS := Lib.hid (show tsign st s n = some ⟨st.out ++ [⟨sgn s, n⟩], st.made, st.live⟩ by unfold tsign; rw [if_neg h1, if_pos ⟨s46, hliv⟩])
                        clear h1 hlk s43 s46 hliv
                        go_wp2_with (at_builtin; refine Kd.R_append k55 (w0 := w) w.heap.size rfl _ _ 50 55 (.agg #[(.string ⟨#[]⟩), (.int .i64 0)]) 24 rfl Tryz.underlying50 info55 rfl (by decide) (by omega) (.slice Ao st.out.length co) st.out (⟨s.extract 0 1, n⟩ : S55) [.string (s.extract 0 1), .int .i64 n] (fun _ => True) (fun _ => False) rfl rfl (k55_mkM _ _ _ (⟨s.extract 0 1, n⟩ : S55)) (fun _ hk => hk.elim) (fun _ _ => trivial) HI4.out.row HI4.out.below HI4.out.below.size (by omega) ?_; intro v6 W6 ho6 hb6 hg6 _; have HI6 := Lib.hid (HI4.out.listed HI4.out ho6 hb6 hg6); clear ho6 hb6 hg6)
                        go_roundw
                        case rel => exact ⟨k + 1, (⟨st.out ++ [⟨sgn s, n⟩], st.made, st.live⟩ : Tst), _, hlt, by go_num, rfl, HGo.out _ HS.out, (by simp only [List.length_append, List.length_singleton]; omega), (by dsimp only; omega), (by simp only [List.length_append, List.length_singleton]; omega), (by simp only [List.length_append, List.length_singleton]; omega), HI6.out⟩
                        case measure => simp [intOf]; omega
                      · have hlk1 : (Instr.lookup 71 (.map (some (w.heap.size + 1))) (.int .i64 n) false).run Tryz.prog W4 = .ok (.bool false) W4 := by rw [hlk, decide_eq_false hliv]
                        have HF := Lib.hid (HFail.out (by unfold tsign; rw [if_neg h1, if_neg (fun h => hliv h.2), if_neg (fun h => hliv h.2)]))
                        clear h1 hlk s43 s46 hliv
                        go_wp2_with fail
                        go_ret3
                        exact told_no HF.out HI4.out.below
                    · have hb46 : ((s.extract 0 1).toList == [46]) = false := beq_eq_false_iff_ne.2 s46
                      by_cases s45 : (sgn s).toList = [45]
                      · have hb45 : ((s.extract 0 1).toList == [45]) = true := beq_iff_eq.2 s45
                        by_cases hliv : n ∈ st.live
                        · have hlk1 : (Instr.lookup 71 (.map (some (w.heap.size + 1))) (.int .i64 n) false).run Tryz.prog W4 = .ok (.bool true) W4 := by rw [hlk, decide_eq_true hliv]
                          have HS := Lib.hid (show tsign st s n = some ⟨st.out ++ [⟨sgn s, n⟩], st.made, st.live.filter (fun y => y != n)⟩ by unfold tsign; rw [if_neg h1, if_neg (fun h => s46 h.1), if_pos ⟨s45, hliv⟩])
                          have hm4 := HI4.out.map
                          clear h1 hlk s43 s46 s45 hliv
                          go_wp2_with (first | (at_delete; refine wpList_dead rfl _ _ rfl rfl hm4 n rfl hnw ?_; intro W5 hm5 hg5; have HI5 := Lib.hid (HI4.out.mapped hm5 hg5); have hE5 := blk_grown HE4.out hg5 (fun e => by injection e with e; have := HI.out.map.lt; omega); have e0 : W5.cell? ⟨wr.heap.size, 0, none⟩ = some (.string (s.extract 0 1)) := (blk_cell hE5 0).trans rfl; have e1 : W5.cell? ⟨wr.heap.size, 1, none⟩ = some (.int .i64 n) := (blk_cell hE5 1).trans rfl; clear hE5 hm4 hm5 hg5 d0 d1) | (at_builtin; refine Kd.R_append k55 (w0 := w) w.heap.size rfl _ _ 50 55 (.agg #[(.string ⟨#[]⟩), (.int .i64 0)]) 24 rfl Tryz.underlying50 info55 rfl (by decide) (by omega) (.slice Ao st.out.length co) st.out (⟨s.extract 0 1, n⟩ : S55) [.string (s.extract 0 1), .int .i64 n] (fun _ => True) (fun _ => False) rfl rfl (k55_mkM _ _ _ (⟨s.extract 0 1, n⟩ : S55)) (fun _ hk => hk.elim) (fun _ _ => trivial) HI5.out.row HI5.out.below HI5.out.below.size (by omega) ?_; intro v6 W6 ho6 hb6 hg6 _; have HI6 := Lib.hid (HI5.out.listed HI5.out ho6 hb6 hg6); clear ho6 hb6 hg6))
                          go_roundw
                          case rel => exact ⟨k + 1, (⟨st.out ++ [⟨sgn s, n⟩], st.made, st.live.filter (fun y => y != n)⟩ : Tst), _, hlt, by go_num, rfl, HGo.out _ HS.out, (by simp only [List.length_append, List.length_singleton]; omega), (by dsimp only; omega), (by simp only [List.length_append, List.length_singleton]; omega), (by simp only [List.length_append, List.length_singleton]; omega), HI6.out⟩
                          case measure => simp [intOf]; omega
                        · have hlk1 : (Instr.lookup 71 (.map (some (w.heap.size + 1))) (.int .i64 n) false).run Tryz.prog W4 = .ok (.bool false) W4 := by rw [hlk, decide_eq_false hliv]
                          have HF := Lib.hid (HFail.out (by unfold tsign; rw [if_neg h1, if_neg (fun h => hliv h.2), if_neg (fun h => hliv h.2)]))
                          clear h1 hlk s43 s46 s45 hliv
                          go_wp2_with fail
                          go_ret3
                          exact told_no HF.out HI4.out.below
                      · have hb45 : ((s.extract 0 1).toList == [45]) = false := beq_eq_false_iff_ne.2 s45
                        have HF := Lib.hid (HFail.out (by unfold tsign; rw [if_neg h1, if_neg (fun h => s46 h.1), if_neg (fun h => s45 h.1)]))
                        clear h1 hlk s43 s46 s45
                        go_wp2_with fail
                        go_ret3
                        exact told_no HF.out HI4.out.below
            · have HQ := Lib.hid (fun (b : ByteArray) (hb : Hid (b.toList = Lib.itoa n)) => itoa_neq (s := s) hb hit)
              have HF := Lib.hid (show toldOf a0 = ([], 0, false) by rw [HT.out, HTl.out, HD.out]; unfold tstep; rw [if_neg HS0.out, HN.out, if_neg hit])
              clear hit
              go_wp2_with fail
              first | go_region_with (go_at_call 52; refine (itoa_any n hnw _ (hldA.below (below_dr _))).mono ?_; rintro e wI ⟨bI, hI, rfl, hbI⟩; have hq := HQ.out bI hI) | fail
              go_wp2_with fail
              go_ret3
              exact told_no HF.out (HI.out.below.trans ((HBA.out.trans (((below_dr _).trans (hbI.mono (Nat.le_refl _))).mono HBA.out.size)).mono HI.out.below.size))
          · have HF := Lib.hid (show toldOf a0 = ([], 0, false) by rw [HT.out, HTl.out, HD.out]; unfold tstep; rw [if_neg HS0.out, numOf_no hno])
            have HBA := Lib.hid hBA
            have hnq : ∀ (W : World) (n' : Nat), (binOp .neq 81 (.iface te pe) .nilIface).run Tryz.prog (W.drewN n') = .ok (.bool true) (W.drewN n') := fun _ _ => rfl
            clear hba hE hld hbA hBA hEA hldA hno
            go_wp2_with fail
            go_quiet (fail)
            go_wp2_with fail
            go_ret3
            exact told_no HF.out (bN (HI.out.below.trans (HBA.out.mono HI.out.below.size)) _)
      · have hkn : k = ws.length := by omega
        subst hkn
        clear hI
        have HTT := Lib.hid (show toldOf a0 = (st.out, st.made, true) by rw [HT.out, HTl.out, tloop_end rfl])
        go_wp2_with fail
        go_ret3
        exact ⟨_, by rw [HTT.out]; rfl, by rw [HTT.out]; exact HI.out.row, HI.out.below⟩
theorem impl_told.calls (a0 : ByteArray) (r1 : List S55) (r2 : Int) (r3 : Bool) (w : World) (hLd : LaidW w) (h : impl_told.f a0 = some (r1, r2, r3)) : Calls Tryz.prog 50 #[.string a0] w fun e w' => ∃ v0_ : Value, e = .returned (.tuple #[v0_, .int .i64 r2, .bool r3]) ∧ Kd.R k55 55 w' w.heap.size (fun _ => True) v0_ r1 ∧ Below w.heap.size w w' := by
  unfold impl_told.f at h
  split at h
  · rename_i hs
    injection h with h
    refine (told_any a0 w hLd hs).mono ?_
    rintro e w' ⟨v, rfl, hr, hb⟩
    rw [h] at hr ⊢
    exact ⟨v, rfl, hr, hb⟩
  · cases h
end Go.Proofs.YtndjbnkmhpbnpaaGreatDoor.Pr
namespace Go.Proofs.YtndjbnkmhpbnpaaGreatDoor.Pr
open Go.RowKit Go.Proofs.YtndjbnkmhpbnpaaGreatDoorW.PrintWords Go.Proofs.YtndjbnkmhpbnpaaGreatDoorW.PrintLast
theorem in_ev (l : List Int) (n : Int) (hl : l.length ≤ 1000000) : ∀ (m i : Nat), i + m = l.length → Ev (fun k => spec_l7In.l0 k n l (l.length : Int) i) (decide (n ∈ l.drop i))
  | 0, i, h => by
    refine Ev.step (f := fun _ => some (decide (n ∈ l.drop i))) (fun k => ?_) (Ev.now _)
    show spec_l7In.l0 (k + 1) n l l.length i = _
    rw [spec_l7In.l0, if_neg (by omega), List.drop_of_length_le (by omega)]
    simp
  | m + 1, i, h => by
    have hi : i < l.length := by omega
    rw [List.drop_eq_getElem_cons hi]
    by_cases hx : l[i] = n
    · refine Ev.step (f := fun _ => some (decide (n ∈ l[i] :: l.drop (i + 1)))) (fun k => ?_) (Ev.now _)
      show spec_l7In.l0 (k + 1) n l l.length i = _
      rw [spec_l7In.l0, if_pos (by omega), if_pos (by omega), if_pos (by omega), if_pos (by unfold rd; simp [hi, hx])]
      simp [hx]
    · refine Ev.step (f := fun k => spec_l7In.l0 k n l l.length ((i + 1 : Nat) : Int)) (fun k => ?_) ?_
      · show spec_l7In.l0 (k + 1) n l l.length i = _
        rw [spec_l7In.l0, if_pos (by omega), if_pos (by omega), if_pos (by omega), if_neg (by unfold rd; simp [hi, hx]), wrap_small (by omega) (by omega)]
        rfl
      · have := in_ev l n hl m (i + 1) (by omega)
        have e : decide (n ∈ l[i] :: l.drop (i + 1)) = decide (n ∈ l.drop (i + 1)) := by
          simp only [List.mem_cons, show ¬ n = l[i] from fun e => hx e.symm, false_or]
        rw [e]
        exact this
theorem l7In_ev (l : List Int) (n : Int) (hl : l.length ≤ 1000000) : Ev (fun k => spec_l7In.f k l n) (decide (n ∈ l)) := by
  have := in_ev l n hl l.length 0 (by omega)
  simpa [spec_l7In.f] using this
theorem without_ev (l : List Int) (n : Int) (hl : l.length ≤ 1000000) : ∀ (m i : Nat) (acc : List Int), acc.length ≤ i → i + m = l.length → Ev (fun k => spec_l7Without.l0 k n acc l (l.length : Int) i) (acc ++ (l.drop i).filter (fun y => y != n))
  | 0, i, acc, ha, h => by
    refine Ev.step (f := fun _ => some (acc ++ (l.drop i).filter (fun y => y != n))) (fun k => ?_) (Ev.now _)
    show spec_l7Without.l0 (k + 1) n acc l l.length i = _
    rw [spec_l7Without.l0, if_neg (by omega), List.drop_of_length_le (by omega)]
    simp
  | m + 1, i, acc, ha, h => by
    have hi : i < l.length := by omega
    rw [List.drop_eq_getElem_cons hi]
    by_cases hx : l[i] = n
    · refine Ev.step (f := fun k => spec_l7Without.l0 k n acc l l.length ((i + 1 : Nat) : Int)) (fun k => ?_) ?_
      · show spec_l7Without.l0 (k + 1) n acc l l.length i = _
        rw [spec_l7Without.l0, if_pos (by omega), if_pos (by omega), if_pos (by omega), if_pos (by unfold rd; simp [hi, hx]), wrap_small (by omega) (by omega)]
        rfl
      · have := without_ev l n hl m (i + 1) acc (by omega) (by omega)
        rw [List.filter_cons_of_neg (by simp [hx])]
        exact this
    · refine Ev.step (f := fun k => spec_l7Without.l0 k n (acc ++ [l[i]]) l l.length ((i + 1 : Nat) : Int)) (fun k => ?_) ?_
      · show spec_l7Without.l0 (k + 1) n acc l l.length i = _
        rw [spec_l7Without.l0, if_pos (by omega), if_pos (by omega), if_pos (by omega), if_neg (by unfold rd; simp [hi, hx]), if_pos (by omega), wrap_small (by omega) (by omega), show rd l (i : Int) = l[i] by unfold rd; simp [hi]]
        rfl
      · have := without_ev l n hl m (i + 1) (acc ++ [l[i]]) (by simp; omega) (by omega)
        rw [List.filter_cons_of_pos (by simp [hx])]
        simpa using this
theorem l7Without_ev (l : List Int) (n : Int) (hl : l.length ≤ 1000000) : Ev (fun k => spec_l7Without.f k l n) (l.filter (fun y => y != n)) := by
  have := without_ev l n hl l.length 0 [] (by simp) (by omega)
  simpa [spec_l7Without.f] using this
def pre (p : List UInt8) : List (List UInt8) → List (List UInt8)
  | [] => []
  | h :: t => (p ++ h) :: t
def cutL : List UInt8 → List (List UInt8)
  | [] => [[]]
  | c :: r => if c = 32 then [] :: cutL r else pre [c] (cutL r)
theorem pre_pre (p q : List UInt8) (X : List (List UInt8)) : pre p (pre q X) = pre (p ++ q) X := by
  cases X with
  | nil => rfl
  | cons h t => simp [pre]
theorem pre_nil (X : List (List UInt8)) : pre [] X = X := by
  cases X with
  | nil => rfl
  | cons h t => rfl
theorem bt_at (s : ByteArray) (i : Nat) (h : i < s.size) : bt s (i : Int) = ((s.data.toList[i]'(by simpa using h)).toNat : Int) := by
  unfold bt
  simp only [Int.toNat_natCast]
  rw [dif_pos h]
  rfl
theorem cut_ev (s : ByteArray) (hs : s.size ≤ 1048576) : ∀ (m i fr : Nat) (acc : List ByteArray), i + m = s.size → fr ≤ i → acc.length ≤ i →
    ∃ res, Ev (fun k => spec_l13Cut.l0 k s 32 acc (fr : Int) (i : Int)) res ∧ res.map (·.data.toList) = acc.map (·.data.toList) ++ pre ((s.data.toList.drop fr).take (i - fr)) (cutL (s.data.toList.drop i))
  | 0, i, fr, acc, h, hf, ha => by
    refine ⟨acc ++ [s.extract fr i], ?_, ?_⟩
    · refine Ev.step (f := fun k => spec_l13Cut.l0 k s 32 (acc ++ [s.extract fr i]) ((i + 1 : Nat) : Int) ((i + 1 : Nat) : Int)) (fun k => ?_) ?_
      · show spec_l13Cut.l0 (k + 1) s 32 acc fr i = _
        rw [spec_l13Cut.l0, if_pos (by omega), if_pos (by omega), if_pos (by omega), if_pos (by omega), if_pos (by omega), wrap_small (by omega) (by omega)]
        rfl
      · refine Ev.step (f := fun _ => some (acc ++ [s.extract fr i])) (fun k => ?_) (Ev.now _)
        show spec_l13Cut.l0 (k + 1) s 32 (acc ++ [s.extract fr i]) _ _ = _
        rw [spec_l13Cut.l0, if_neg (by omega)]
    · rw [List.drop_of_length_le (i := i) (by simp; omega)]
      simp [cutL, pre]
  | m + 1, i, fr, acc, h, hf, ha => by
    have hi : i < s.size := by omega
    have hil : i < s.data.toList.length := by simpa using hi
    rw [List.drop_eq_getElem_cons hil, cutL]
    by_cases hc : s.data.toList[i] = 32
    · obtain ⟨res, h1, h2⟩ := cut_ev s hs m (i + 1) (i + 1) (acc ++ [s.extract fr i]) (by omega) (by omega) (by simp; omega)
      refine ⟨res, ?_, ?_⟩
      · refine Ev.step (f := fun k => spec_l13Cut.l0 k s 32 (acc ++ [s.extract fr i]) ((i + 1 : Nat) : Int) ((i + 1 : Nat) : Int)) (fun k => ?_) h1
        show spec_l13Cut.l0 (k + 1) s 32 acc fr i = _
        rw [spec_l13Cut.l0, if_pos (by omega), if_neg (by omega), if_pos (by omega), if_pos (by omega), if_pos (by rw [bt_at s i hi, hc]; rfl), if_pos (by omega), if_pos (by omega), if_pos (by omega), wrap_small (by omega) (by omega)]
        rfl
      · rw [h2, if_pos hc]
        rw [Nat.sub_self, List.take_zero, pre_nil]
        simp [pre]
    · obtain ⟨res, h1, h2⟩ := cut_ev s hs m (i + 1) fr acc (by omega) (by omega) (by omega)
      refine ⟨res, ?_, ?_⟩
      · refine Ev.step (f := fun k => spec_l13Cut.l0 k s 32 acc (fr : Int) ((i + 1 : Nat) : Int)) (fun k => ?_) h1
        show spec_l13Cut.l0 (k + 1) s 32 acc fr i = _
        rw [spec_l13Cut.l0, if_pos (by omega), if_neg (by omega), if_pos (by omega), if_pos (by omega), if_neg (by rw [bt_at s i hi]; intro e; apply hc; apply UInt8.toNat_inj.1; have : (32 : UInt8).toNat = 32 := rfl; omega), wrap_small (by omega) (by omega)]
        rfl
      · rw [h2, if_neg hc, pre_pre]
        rw [show i + 1 - fr = (i - fr) + 1 by omega, List.take_add_one, List.getElem?_drop, show fr + (i - fr) = i by omega, List.getElem?_eq_getElem hil]
        rfl
theorem splitK_cut : ∀ l : List UInt8, Lib.splitK [32] 0 (Lib.count l [32]) l = cutL l
  | [] => rfl
  | c :: r => by
    have ih := splitK_cut r
    by_cases hc : c = 32
    · subst hc
      rw [Lib.count_cons_eq, Nat.add_comm, Lib.splitK, Lib.index_one, Lib.indexByte, cutL, if_pos rfl, ← ih]
      simp
    · rw [Lib.count_cons_ne _ _ _ hc, cutL, if_neg hc, ← ih]
      cases hk : Lib.count r [32] with
      | zero => rfl
      | succ k =>
        obtain ⟨i, hi⟩ := Lib.index_of_count (s := r) (old := [32]) (by omega)
        have hib : Lib.indexByte r 32 = (i : Int) := by rw [← Lib.index_one]; exact hi
        have hi2 : Lib.index (c :: r) [32] = ((i + 1 : Nat) : Int) := by
          rw [Lib.index_one, Lib.indexByte, hib]
          simp [hc]
        rw [Lib.splitK, Lib.splitK, hi, hi2, if_neg (by simp; try omega), if_neg (by simp; try omega)]
        simp [pre]
theorem bytes_lists : ∀ {xs ys : List ByteArray}, xs.map (·.data.toList) = ys.map (·.data.toList) → xs = ys
  | [], [], _ => rfl
  | [], _ :: _, h => by cases h
  | _ :: _, [], h => by cases h
  | x :: xs, y :: ys, h => by
    simp only [List.map_cons, List.cons.injEq] at h
    rw [bytes_lists h.2, ByteArray.ext (Array.ext' h.1)]
theorem l13Cut_ev (s : ByteArray) (hs : s.size ≤ 1048576) : Ev (fun k => spec_l13Cut.f k s 32) (pieces s) := by
  obtain ⟨res, h1, h2⟩ := cut_ev s hs s.size 0 0 [] (by omega) (by omega) (by simp)
  have e : res = pieces s := by
    apply bytes_lists
    rw [h2]
    unfold pieces
    rw [Lib.splitB_data]
    simp only [List.map_nil, List.nil_append, Nat.sub_self, List.take_zero, pre_nil, List.drop_zero]
    exact (splitK_cut _).symm
  subst e
  exact h1
end Go.Proofs.YtndjbnkmhpbnpaaGreatDoor.Pr
namespace Go.Proofs.YtndjbnkmhpbnpaaGreatDoor.Pr
open Go.RowKit Go.Proofs.YtndjbnkmhpbnpaaGreatDoorW.PrintWords Go.Proofs.YtndjbnkmhpbnpaaGreatDoorW.PrintLast
def valN : Nat → List UInt8 → Option Nat
  | acc, [] => some acc
  | acc, c :: r => if 48 ≤ c.toNat ∧ c.toNat ≤ 57 then valN (acc * 10 + (c.toNat - 48)) r else none
theorem valN_snoc (c : UInt8) : ∀ (l : List UInt8) (a : Nat), valN a (l ++ [c]) = (valN a l).bind fun v => if 48 ≤ c.toNat ∧ c.toNat ≤ 57 then some (v * 10 + (c.toNat - 48)) else none
  | [], a => by simp [valN]
  | d :: r, a => by
    rw [List.cons_append, valN, valN]
    by_cases h : 48 ≤ d.toNat ∧ d.toNat ≤ 57
    · rw [if_pos h, if_pos h, valN_snoc c r]
    · rw [if_neg h, if_neg h]; rfl
theorem ofNat_digit {d : Nat} (h : d < 10) : (UInt8.ofNat (48 + d)).toNat = 48 + d := by
  rw [UInt8.toNat_ofNat']
  omega
theorem val_dec (u : Nat) : valN 0 (Lib.decDigits u) = some u := by
  induction u using Nat.strongRecOn with
  | _ u ih =>
    rw [Lib.decDigits]
    by_cases h : u < 10
    · rw [dif_pos h, valN, ofNat_digit h, if_pos (by omega), valN]
      congr 1
      omega
    · rw [dif_neg h, valN_snoc, ih (u / 10) (by omega), Option.bind_some, ofNat_digit (by omega), if_pos (by omega)]
      congr 1
      omega
theorem head_dec (u : Nat) (hu : 1 ≤ u) : ∃ c r, Lib.decDigits u = c :: r ∧ 49 ≤ c.toNat ∧ c.toNat ≤ 57 := by
  induction u using Nat.strongRecOn with
  | _ u ih =>
    rw [Lib.decDigits]
    by_cases h : u < 10
    · rw [dif_pos h]
      exact ⟨_, _, rfl, by rw [ofNat_digit h]; omega, by rw [ofNat_digit h]; omega⟩
    · rw [dif_neg h]
      obtain ⟨c, r, h1, h2, h3⟩ := ih (u / 10) (by omega) (by omega)
      exact ⟨c, _, by rw [h1]; rfl, h2, h3⟩
theorem len_dec (u : Nat) (hu : u ≤ 601) : (Lib.decDigits u).length ≤ 3 := by
  rw [Lib.decDigits_length, Lib.nDigits]
  split
  · omega
  · rw [Lib.nDigits]
    split
    · omega
    · rw [Lib.nDigits]
      split
      · omega
      · omega
theorem canon : ∀ (n : Nat) (l : List UInt8) (v : Nat), l.length = n → valN 0 l = some v → (∃ c r, l = c :: r ∧ 49 ≤ c.toNat) → l = Lib.decDigits v := by
  intro n
  induction n with
  | zero =>
    intro l v hl _ hc
    obtain ⟨c, r, rfl, _⟩ := hc
    simp at hl
  | succ n ih =>
    intro l v hl hv hc
    rcases List.eq_nil_or_concat l with rfl | ⟨l', c, rfl⟩
    · simp at hl
    · rw [List.concat_eq_append] at *
      rw [valN_snoc] at hv
      cases hv' : valN 0 l' with
      | none => rw [hv'] at hv; cases hv
      | some v' =>
        rw [hv', Option.bind_some] at hv
        split at hv
        · rename_i hd
          injection hv with hv
          cases l' with
          | nil =>
            obtain ⟨c1, r1, h1, h2⟩ := hc
            simp only [List.nil_append, List.cons.injEq] at h1
            simp only [valN, Option.some.injEq] at hv'
            subst hv'
            rw [Lib.decDigits_one (by omega)]
            rw [List.nil_append]
            congr 1
            apply UInt8.toNat_inj.1
            rw [ofNat_digit (by omega)]
            omega
          | cons c1 r1 =>
            have hc' : ∃ c r, c1 :: r1 = c :: r ∧ 49 ≤ c.toNat := by
              obtain ⟨c2, r2, h1, h2⟩ := hc
              simp only [List.cons_append, List.cons.injEq] at h1
              exact ⟨c1, r1, rfl, by rw [h1.1]; exact h2⟩
            have e := ih (c1 :: r1) v' (by simp at hl ⊢; exact hl) hv' hc'
            have hv1 : 1 ≤ v' := by
              apply Decidable.byContradiction
              intro hz
              have : v' = 0 := by omega
              subst this
              rw [Lib.decDigits_one (by omega)] at e
              obtain ⟨c2, r2, h1, h2⟩ := hc'
              rw [e] at h1
              simp only [List.cons.injEq] at h1
              rw [← h1.1] at h2
              exact absurd h2 (by decide)
            have e2 : Lib.decDigits v = Lib.decDigits (v / 10) ++ [UInt8.ofNat (48 + v % 10)] := by
              conv => lhs; rw [Lib.decDigits]
              rw [dif_neg (by omega)]
            rw [e, e2, show v / 10 = v' by omega]
            congr 2
            apply UInt8.toNat_inj.1
            rw [ofNat_digit (by omega)]
            omega
        · cases hv
def numRes (neg : Bool) : Option Nat → Int × Bool
  | none => (0, false)
  | some v => (if neg then -(v : Int) else v, true)
theorem num_l0 (s : ByteArray) (hs : s.size ≤ 17) (neg : Bool) : ∀ (m i acc : Nat), i + m = s.size → acc < 10 ^ i → Ev (fun k => spec_l13Num.l0 k s neg (acc : Int) (i : Int)) (numRes neg (valN acc (s.data.toList.drop i)))
  | 0, i, acc, h, hb => by
    have hp : (10 : Nat) ^ i ≤ 10 ^ 17 := Nat.pow_le_pow_right (by decide) (by omega)
    refine Ev.step (f := fun _ => some (numRes neg (valN acc (s.data.toList.drop i)))) (fun k => ?_) (Ev.now _)
    show spec_l13Num.l0 (k + 1) s neg acc i = _
    rw [spec_l13Num.l0, if_neg (by omega), List.drop_of_length_le (by simp; omega), valN, wrap_small (by omega) (by omega)]
    cases neg <;> rfl
  | m + 1, i, acc, h, hb => by
    have hi : i < s.size := by omega
    have hil : i < s.data.toList.length := by simpa using hi
    have hp : (10 : Nat) ^ i ≤ 10 ^ 17 := Nat.pow_le_pow_right (by decide) (by omega)
    have hu : (s.data.toList[i]).toNat < 256 := UInt8.toNat_lt _
    rw [List.drop_eq_getElem_cons hil, valN]
    generalize hc : s.data.toList[i] = c at *
    have hbt : bt s (i : Int) = (c.toNat : Int) := by rw [bt_at s i hi, hc]
    by_cases h1 : c.toNat < 48
    · refine Ev.step (f := fun _ => some ((0 : Int), false)) (fun k => ?_) ?_
      · show spec_l13Num.l0 (k + 1) s neg acc i = _
        rw [spec_l13Num.l0, if_pos (by omega), if_pos (by omega), if_pos (by rw [hbt]; omega)]
      · rw [if_neg (by omega)]
        exact Ev.now _
    · by_cases h2 : 57 < c.toNat
      · refine Ev.step (f := fun _ => some ((0 : Int), false)) (fun k => ?_) ?_
        · show spec_l13Num.l0 (k + 1) s neg acc i = _
          rw [spec_l13Num.l0, if_pos (by omega), if_pos (by omega), if_neg (by rw [hbt]; omega), if_pos (by rw [hbt]; omega)]
        · rw [if_neg (by omega)]
          exact Ev.now _
      · rw [if_pos (by omega)]
        have hpw : (10 : Nat) ^ (i + 1) = 10 ^ i * 10 := Nat.pow_succ ..
        refine Ev.step (f := fun k => spec_l13Num.l0 k s neg ((acc * 10 + (c.toNat - 48) : Nat) : Int) ((i + 1 : Nat) : Int)) (fun k => ?_) (num_l0 s hs neg m (i + 1) _ (by omega) (by omega))
        show spec_l13Num.l0 (k + 1) s neg acc i = _
        rw [spec_l13Num.l0, if_pos (by omega), if_pos (by omega), if_neg (by rw [hbt]; omega), if_neg (by rw [hbt]; omega), hbt, wrap_small (n := (acc : Int) * 10) (by omega) (by omega), wrap_small (n := (acc : Int) * 10 + _) (by omega) (by omega), wrap_small (n := (i : Int) + 1) (by omega) (by omega), show (acc : Int) * 10 + ((c.toNat : Int) - 48) % 256 = ((acc * 10 + (c.toNat - 48) : Nat) : Int) by omega]
        rfl
theorem num_j2 (s : ByteArray) (neg : Bool) : Ev (fun k => spec_l13Num.j2 k s neg true) (0, false) :=
  Ev.step (f := fun _ => some (0, false)) (fun k => by show spec_l13Num.j2 (k + 1) s neg true = _; rw [spec_l13Num.j2, if_pos rfl]) (Ev.now _)
theorem num_j2' (s : ByteArray) (neg : Bool) (hs : s.size ≤ 17) : Ev (fun k => spec_l13Num.j2 k s neg false) (numRes neg (valN 0 s.data.toList)) :=
  Ev.step (f := fun k => spec_l13Num.l0 k s neg 0 0) (fun k => by show spec_l13Num.j2 (k + 1) s neg false = _; rw [spec_l13Num.j2, if_neg (by decide)]) (num_l0 s hs neg s.size 0 0 (by omega) (by decide))
theorem num_j1 (s : ByteArray) (neg : Bool) : ∃ x : Int × Bool, Ev (fun k => spec_l13Num.j1 k s neg) x ∧
    (x = (0, false) ∧ (∀ m : Nat, 1 ≤ m → m ≤ 601 → s.data.toList ≠ Lib.decDigits m) ∨
     x = numRes neg (valN 0 s.data.toList) ∧ (s.data.toList = [48] ∨ ∃ c r, s.data.toList = c :: r ∧ c.toNat ≠ 48)) := by
  have hlen : s.data.toList.length = s.size := Array.length_toList
  by_cases h0 : s.size = 0
  · refine ⟨(0, false), Ev.step (f := fun k => spec_l13Num.j2 k s neg true) (fun k => ?_) (num_j2 s neg), .inl ⟨rfl, fun m hm1 hm2 e => ?_⟩⟩
    · show spec_l13Num.j1 (k + 1) s neg = _
      rw [spec_l13Num.j1, if_pos (by omega)]
    · obtain ⟨c, r, h1, _⟩ := head_dec m hm1
      rw [e, h1] at hlen
      simp at hlen
      omega
  · by_cases h17 : 17 < s.size
    · refine ⟨(0, false), Ev.step (f := fun k => spec_l13Num.j2 k s neg true) (fun k => ?_) (num_j2 s neg), .inl ⟨rfl, fun m hm1 hm2 e => ?_⟩⟩
      · show spec_l13Num.j1 (k + 1) s neg = _
        rw [spec_l13Num.j1, if_neg (by omega), if_pos (by omega)]
      · have := len_dec m hm2
        rw [e] at hlen
        omega
    · obtain ⟨c, r, hcr⟩ : ∃ c r, s.data.toList = c :: r := by
        cases hl : s.data.toList with
        | nil => rw [hl] at hlen; simp at hlen; omega
        | cons c r => exact ⟨c, r, rfl⟩
      have hbt : bt s 0 = (c.toNat : Int) := by
        have := bt_at s 0 (by omega)
        simp only [hcr, List.getElem_cons_zero] at this
        exact this
      by_cases h48 : c.toNat = 48
      · by_cases h1 : s.size = 1
        · cases r with
          | cons d r => rw [hcr] at hlen; simp at hlen; omega
          | nil =>
            have hc48 : c = 48 := UInt8.toNat_inj.1 h48
            cases neg with
            | true =>
              refine ⟨(0, false), Ev.step (f := fun k => spec_l13Num.j2 k s true true) (fun k => ?_) (num_j2 s true), .inl ⟨rfl, fun m hm1 hm2 e => ?_⟩⟩
              · show spec_l13Num.j1 (k + 1) s true = _
                rw [spec_l13Num.j1, if_neg (by omega), if_neg (by omega), if_pos (by omega), if_pos (by rw [hbt]; omega), if_neg (by omega)]
              · obtain ⟨c', r', h1', h2', _⟩ := head_dec m hm1
                rw [hcr, h1'] at e
                simp only [List.cons.injEq] at e
                rw [← e.1] at h2'
                omega
            | false =>
              refine ⟨_, Ev.step (f := fun k => spec_l13Num.j2 k s false false) (fun k => ?_) (num_j2' s false (by omega)), .inr ⟨rfl, .inl (by rw [hcr, hc48])⟩⟩
              show spec_l13Num.j1 (k + 1) s false = _
              rw [spec_l13Num.j1, if_neg (by omega), if_neg (by omega), if_pos (by omega), if_pos (by rw [hbt]; omega), if_neg (by omega)]
        · refine ⟨(0, false), Ev.step (f := fun k => spec_l13Num.j2 k s neg true) (fun k => ?_) (num_j2 s neg), .inl ⟨rfl, fun m hm1 hm2 e => ?_⟩⟩
          · show spec_l13Num.j1 (k + 1) s neg = _
            rw [spec_l13Num.j1, if_neg (by omega), if_neg (by omega), if_pos (by omega), if_pos (by rw [hbt]; omega), if_pos (by omega)]
          · obtain ⟨c', r', h1', h2', _⟩ := head_dec m hm1
            rw [hcr, h1'] at e
            simp only [List.cons.injEq] at e
            rw [← e.1] at h2'
            omega
      · refine ⟨_, Ev.step (f := fun k => spec_l13Num.j2 k s neg false) (fun k => ?_) (num_j2' s neg (by omega)), .inr ⟨rfl, .inr ⟨c, r, hcr, h48⟩⟩⟩
        show spec_l13Num.j1 (k + 1) s neg = _
        rw [spec_l13Num.j1, if_neg (by omega), if_neg (by omega), if_pos (by omega), if_neg (by rw [hbt]; omega)]
theorem num_ev (d : ByteArray) : ∃ (n : Int) (ok : Bool), Ev (fun k => spec_l13Num.f k d) (n, ok) ∧ ∀ m : Nat, 1 ≤ m → m ≤ 601 → ((ok = true ∧ n = m) ↔ d.data.toList = Lib.decDigits m) := by
  have hlen : d.data.toList.length = d.size := Array.length_toList
  by_cases h45 : d.size > 0 ∧ bt d 0 = 45
  · obtain ⟨x, hx, hcase⟩ := num_j1 (d.extract 1 d.size) true
    refine ⟨x.1, x.2, ?_, fun m hm1 hm2 => ⟨fun h => ?_, fun h => ?_⟩⟩
    · refine Ev.congr (f := fun k => spec_l13Num.j0 k d true) (fun k => ?_) (Ev.step (f := fun k => spec_l13Num.j1 k (d.extract 1 d.size) true) (fun k => ?_) hx)
      · show spec_l13Num.f k d = _
        unfold spec_l13Num.f
        rw [if_pos (by omega), if_pos (by omega), h45.2]
        rfl
      · show spec_l13Num.j0 (k + 1) d true = _
        rw [spec_l13Num.j0, if_pos rfl, if_pos (by omega)]
    · exfalso
      rcases hcase with ⟨e, _⟩ | ⟨e, _⟩
      · rw [e] at h; exact absurd h.1 (by decide)
      · rw [e] at h
        cases hv : valN 0 (d.extract 1 d.size).data.toList with
        | none => rw [hv] at h; exact absurd h.1 (by decide)
        | some v =>
          rw [hv] at h
          have := h.2
          simp only [numRes, if_true] at this
          omega
    · exfalso
      obtain ⟨c, r, h1, h2, h3⟩ := head_dec m hm1
      have := bt_at d 0 (by omega)
      simp only [h, h1, List.getElem_cons_zero] at this
      have hb : bt d 0 = (c.toNat : Int) := this
      omega
  · obtain ⟨x, hx, hcase⟩ := num_j1 d false
    refine ⟨x.1, x.2, ?_, fun m hm1 hm2 => ⟨fun h => ?_, fun h => ?_⟩⟩
    · refine Ev.congr (f := fun k => spec_l13Num.j0 k d false) (fun k => ?_) (Ev.step (f := fun k => spec_l13Num.j1 k d false) (fun k => ?_) hx)
      · show spec_l13Num.f k d = _
        unfold spec_l13Num.f
        by_cases hz : d.size > 0
        · rw [if_pos (by omega), if_pos (by omega), show (bt d 0 == 45) = false from beq_eq_false_iff_ne.2 (fun e => h45 ⟨hz, e⟩)]
        · rw [if_neg (by omega)]
      · show spec_l13Num.j0 (k + 1) d false = _
        rw [spec_l13Num.j0, if_neg (by decide)]
    · rcases hcase with ⟨e, _⟩ | ⟨e, hc⟩
      · rw [e] at h; exact absurd h.1 (by decide)
      · rw [e] at h
        cases hv : valN 0 d.data.toList with
        | none => rw [hv] at h; exact absurd h.1 (by decide)
        | some v =>
          rw [hv] at h
          have hvm : v = m := by
            have := h.2
            simp only [numRes] at this
            simp at this
            omega
          subst hvm
          rcases hc with hc | ⟨c, r, hcr, hne⟩
          · rw [hc] at hv
            simp [valN] at hv
            omega
          · refine canon _ _ _ rfl hv ⟨c, r, hcr, ?_⟩
            rw [hcr, valN] at hv
            split at hv
            · omega
            · cases hv
    · rcases hcase with ⟨_, hn⟩ | ⟨e, _⟩
      · exact absurd h (hn m hm1 hm2)
      · rw [e, h, val_dec]
        exact ⟨rfl, rfl⟩
theorem valN_le : ∀ (l : List UInt8) (a v : Nat), valN a l = some v → a ≤ v
  | [], a, v, h => by simp only [valN, Option.some.injEq] at h; omega
  | c :: r, a, v, h => by
    rw [valN] at h
    split at h
    · have := valN_le r _ v h
      omega
    · cases h
theorem parse_val : ∀ (l : List UInt8) (a v : Nat), valN a l = some v → v ≤ 1000000 → Lib.parseUint10 a l = .ok v
  | [], a, v, h, hv => by
    simp only [valN, Option.some.injEq] at h
    rw [Lib.parseUint10, h]
  | c :: r, a, v, h, hv => by
    rw [valN] at h
    split at h
    · rename_i hc
      have := valN_le r _ v h
      rw [Lib.parseUint10, if_pos hc, if_neg (by omega), if_neg (by omega)]
      exact parse_val r _ v h hv
    · cases h
theorem numOf_iff (s : ByteArray) (m : Nat) (h1 : 1 ≤ m) (h2 : m ≤ 601) : numOf s = some (m : Int) ↔ (dig s).data.toList = Lib.decDigits m := by
  have hit : Lib.itoa (m : Int) = Lib.decDigits m := Lib.itoa_nonneg m
  constructor
  · intro h
    unfold numOf at h
    split at h
    · rename_i n hn
      split at h
      · rename_i he
        injection h with h
        rw [h, hit] at he
        exact he.symm
      · cases h
    · cases h
  · intro h
    have ha : Lib.atoiAll (dig s).data.toList = .ok (m : Int) := by
      rw [h]
      obtain ⟨c, r, e1, e2, e3⟩ := head_dec m h1
      have hp : Lib.parseMag (Lib.decDigits m) = .ok m := by
        unfold Lib.parseMag
        rw [if_neg (by rw [e1]; simp)]
        exact parse_val _ 0 m (val_dec m) (by omega)
      rw [e1] at hp ⊢
      rw [Lib.atoiAll_plain c r (by omega) (by omega), hp]
      unfold Lib.signless
      simp
      omega
    unfold numOf
    rw [ha]
    simp only []
    rw [if_pos (by rw [hit, h])]
end Go.Proofs.YtndjbnkmhpbnpaaGreatDoor.Pr
namespace Go.Proofs.YtndjbnkmhpbnpaaGreatDoor.Pr
open Go.RowKit Go.Proofs.YtndjbnkmhpbnpaaGreatDoorW.PrintWords Go.Proofs.YtndjbnkmhpbnpaaGreatDoorW.PrintLast
def conv (e : S55) : S63 := ⟨bt e.f0 0, e.f1⟩
def readRes : Option Tst → List S63 × Bool
  | none => ([], false)
  | some st => (st.out.map conv, true)
structure StOk (st : Tst) : Prop where
  len : st.out.length ≤ 600
  made0 : 0 ≤ st.made
  made : st.made ≤ st.out.length
  live : st.live.length ≤ st.out.length
  range : ∀ x ∈ st.live, 1 ≤ x ∧ x ≤ st.made
theorem sgn_at {s : ByteArray} {c : UInt8} {r : List UInt8} (h : s.data.toList = c :: r) : (sgn s).toList = [c] := by
  rw [Lib.toList_data]
  unfold sgn
  simp [h]
theorem bt_head {s : ByteArray} {c : UInt8} {r : List UInt8} (h : s.data.toList = c :: r) : bt s 0 = (c.toNat : Int) := by
  have hl : 0 < s.size := by
    have : s.data.toList.length = s.size := Array.length_toList
    rw [h] at this
    simp at this
    omega
  have := bt_at s 0 hl
  simp only [h, List.getElem_cons_zero] at this
  exact this
theorem bt_sgn {s : ByteArray} {c : UInt8} {r : List UInt8} (h : s.data.toList = c :: r) : bt (sgn s) 0 = bt s 0 := by
  have h2 := sgn_at h
  rw [Lib.toList_data] at h2
  rw [bt_head h2, bt_head h]
theorem byte_eq {c d : UInt8} : c = d ↔ (c.toNat : Int) = d.toNat := by
  constructor
  · rintro rfl; rfl
  · intro h; apply UInt8.toNat_inj.1; omega
theorem tsign_in {st : Tst} {s : ByteArray} {n : Int} {st' : Tst} (hst : StOk st) (h : tsign st s n = some st') : 1 ≤ n ∧ n ≤ 601 := by
  have h1 := hst.len
  have h2 := hst.made
  have h3 := hst.made0
  unfold tsign at h
  split at h
  · rename_i hc; omega
  · split at h
    · rename_i hc; have := hst.range n hc.2; omega
    · split at h
      · rename_i hc; have := hst.range n hc.2; omega
      · cases h
theorem tsign_ok {st : Tst} {s : ByteArray} {n : Int} {st' : Tst} (hst : StOk st) (h6 : st.out.length < 600) (h : tsign st s n = some st') : StOk st' := by
  obtain ⟨k1, k2, k3, k4, k5⟩ := hst
  unfold tsign at h
  split at h
  · rename_i hc
    injection h with h
    subst h
    refine ⟨by simp; omega, by dsimp only; omega, by simp; omega, by simp; omega, fun x hx => ?_⟩
    rcases List.mem_append.1 hx with hx | hx
    · have := k5 x hx; dsimp only; omega
    · have := List.mem_singleton.1 hx; dsimp only; omega
  · split at h
    · injection h with h
      subst h
      exact ⟨by simp; omega, k2, by simp; omega, by simp; omega, k5⟩
    · split at h
      · injection h with h
        subst h
        refine ⟨by simp; omega, k2, by simp; omega, ?_, fun x hx => k5 x (List.mem_filter.1 hx).1⟩
        have := List.length_filter_le (fun y => y != n) st.live
        simp only [List.length_append, List.length_singleton]
        omega
      · cases h
theorem tstep_none {st : Tst} {s : ByteArray} {n : Int} {ok : Bool} (hst : StOk st) (hiff : ∀ m : Nat, 1 ≤ m → m ≤ 601 → ((ok = true ∧ n = m) ↔ (dig s).data.toList = Lib.decDigits m)) (h : ok = true → tsign st s n = none) : tstep st s = none := by
  unfold tstep
  split
  · rfl
  · split
    · rfl
    · rename_i n' hn
      split
      · rfl
      · cases ht : tsign st s n' with
        | none => rfl
        | some st' =>
          obtain ⟨a, b⟩ := tsign_in hst ht
          obtain ⟨m, rfl⟩ := Int.eq_ofNat_of_zero_le (show 0 ≤ n' by omega)
          obtain ⟨x, y⟩ := (hiff m (by omega) (by omega)).2 ((numOf_iff s m (by omega) (by omega)).1 hn)
          rw [y] at h
          rw [h x] at ht
          cases ht
theorem tstep_some {st : Tst} {s : ByteArray} {n : Int} {st' : Tst} (hst : StOk st) (hs : s.size ≠ 0) (h6 : st.out.length ≠ 600) (hiff : ∀ m : Nat, 1 ≤ m → m ≤ 601 → ((true = true ∧ n = m) ↔ (dig s).data.toList = Lib.decDigits m)) (h : tsign st s n = some st') : tstep st s = some st' := by
  obtain ⟨a, b⟩ := tsign_in hst h
  obtain ⟨m, rfl⟩ := Int.eq_ofNat_of_zero_le (show 0 ≤ n by omega)
  unfold tstep
  rw [if_neg hs, (numOf_iff s m (by omega) (by omega)).2 ((hiff m (by omega) (by omega)).1 ⟨rfl, rfl⟩)]
  simp only []
  rw [if_neg h6, h]
theorem toList_nil {s : ByteArray} : s.toList = ([] : List UInt8) ↔ s.size = 0 := by
  have h : s.data.toList.length = s.size := Array.length_toList
  rw [Lib.toList_data, ← h]
  exact List.length_eq_zero_iff.symm
set_option maxHeartbeats 1000000 in
theorem read_ev (ws : List ByteArray) (hws : ws.length ≤ 1048577) : ∀ (m i : Nat) (st : Tst), i + m = ws.length → StOk st →
    Ev (fun k => spec_l7Read.l0 k (st.out.map conv) st.made st.live ws (ws.length : Int) (i : Int)) (readRes (tloop (ws.drop i) st))
  | 0, i, st, h, hst => by
    refine Ev.step (f := fun _ => some (st.out.map conv, true)) (fun k => ?_) ?_
    · show spec_l7Read.l0 (k + 1) _ _ _ ws _ _ = _
      rw [spec_l7Read.l0, if_neg (by omega)]
    · rw [tloop_end (by omega)]
      exact Ev.now _
  | m + 1, i, st, h, hst => by
    have hi : i < ws.length := by omega
    rw [tloop_drop hi]
    have hrd : rdOf ByteArray.empty ws (i : Int) = ws[i] := by unfold rdOf; simp [hi]
    generalize ws[i] = s at *
    have no : Ev (fun _ => some (([] : List S63), false)) (readRes none) := Ev.now _
    obtain ⟨k1, k2, k3, k4, k5⟩ := hst
    have hst : StOk st := ⟨k1, k2, k3, k4, k5⟩
    have hml : (st.out.map conv).length = st.out.length := List.length_map ..
    by_cases hbad : s.size = 0 ∨ st.out.length = 600
    · have hts : tstep st s = none := by
        unfold tstep
        rcases hbad with hb | hb
        · rw [if_pos hb]
        · split
          · rfl
          · split
            · rfl
            · first | rfl | rw [if_pos hb]
      rw [hts]
      refine Ev.step (f := fun k => spec_l7Read.j1 k (st.out.map conv) st.made st.live s ws (ws.length : Int) (i : Int) true) (fun k => ?_) (Ev.step (f := fun _ => some (([] : List S63), false)) (fun k => ?_) no)
      · show spec_l7Read.l0 (k + 1) _ _ _ ws _ _ = _
        rw [spec_l7Read.l0, if_pos (by omega), if_pos (by omega), if_pos (by omega), hrd]
        by_cases hz : s.size = 0
        · rw [if_pos (toList_nil.2 hz)]
        · rw [if_neg (fun e => hz (toList_nil.1 e)), hml, decide_eq_true (by omega)]
      · show spec_l7Read.j1 (k + 1) _ _ _ _ ws _ _ true = _
        rw [spec_l7Read.j1, if_pos rfl]
    · have hz : s.size ≠ 0 := fun e => hbad (.inl e)
      have h6 : st.out.length ≠ 600 := fun e => hbad (.inr e)
      obtain ⟨n, ok, hev, hiff⟩ := num_ev (dig s)
      obtain ⟨c, r, hcr⟩ : ∃ c r, s.data.toList = c :: r := by
        cases hl : s.data.toList with
        | nil => have : s.data.toList.length = s.size := Array.length_toList; rw [hl] at this; simp at this; omega
        | cons c r => exact ⟨c, r, rfl⟩
      have hsg := sgn_at hcr
      have hbh := bt_head hcr
      have hcv : ∀ n : Int, conv ⟨sgn s, n⟩ = (⟨bt s 0, n⟩ : S63) := fun n => by unfold conv; rw [bt_sgn hcr]
      refine Ev.step (f := fun k => spec_l7Read.j1 k (st.out.map conv) st.made st.live s ws (ws.length : Int) (i : Int) false) (fun k => ?_) ?_
      · show spec_l7Read.l0 (k + 1) _ _ _ ws _ _ = _
        rw [spec_l7Read.l0, if_pos (by omega), if_pos (by omega), if_pos (by omega), hrd, if_neg (fun e => hz (toList_nil.1 e)), hml, decide_eq_false (by omega)]
      · refine Ev.step (f := fun k => (spec_l13Num.f k (dig s)).bind fun b => if b.2 = true then (if bt s 0 = 43 then spec_l7Read.j2 k (st.out.map conv) st.made st.live b.1 ws (ws.length : Int) (i : Int) (b.1 == wrap64 (st.made + 1)) (bt s 0) b.1 else spec_l7Read.j2 k (st.out.map conv) st.made st.live b.1 ws (ws.length : Int) (i : Int) false (bt s 0) b.1) else some (([] : List S63), false)) (fun k => ?_) (Ev.bind hev ?_)
        · show spec_l7Read.j1 (k + 1) _ _ _ _ ws _ _ false = _
          rw [spec_l7Read.j1, if_neg (by decide), if_pos (by omega)]
          simp only [if_pos (show (0 : Int) < (s.size : Int) by omega)]
          rfl
        · -- the step
          have next : ∀ st', tsign st s n = some st' → ok = true → Ev (fun k => spec_l7Read.l0 k (st'.out.map conv) st'.made st'.live ws (ws.length : Int) ((i + 1 : Nat) : Int)) (readRes (match tstep st s with | none => none | some st' => tloop (ws.drop (i + 1)) st')) := by
            intro st' ht hok
            subst hok
            rw [tstep_some hst hz h6 hiff ht]
            exact read_ev ws hws m (i + 1) st' (by omega) (tsign_ok hst (by omega) ht)
          have stop : (ok = true → tsign st s n = none) → Ev (fun _ => some (([] : List S63), false)) (readRes (match tstep st s with | none => none | some st' => tloop (ws.drop (i + 1)) st')) := by
            intro ht
            rw [tstep_none hst hiff ht]
            exact no
          cases ok with
          | false =>
            refine Ev.congr (f := fun _ => some (([] : List S63), false)) (fun k => ?_) (stop (fun e => by cases e))
            simp
          | true =>
            have hlv : st.live.length ≤ 1000000 := by omega
            have mapc : ∀ n : Int, (st.out ++ [(⟨sgn s, n⟩ : S55)]).map conv = st.out.map conv ++ [(⟨bt s 0, n⟩ : S63)] := fun n => by rw [List.map_append, List.map_cons, List.map_nil, hcv]
            have hwi : wrap64 ((i : Int) + 1) = ((i + 1 : Nat) : Int) := by rw [wrap_small (by omega) (by omega)]; rfl
            by_cases c43 : c = 43
            · have b43 : bt s 0 = 43 := by rw [hbh, c43]; rfl
              by_cases hn : n = st.made + 1
              · have ht : tsign st s n = some ⟨st.out ++ [⟨sgn s, n⟩], st.made + 1, st.live ++ [n]⟩ := by unfold tsign; rw [if_pos ⟨by rw [hsg, c43], hn⟩]
                have N := next _ ht rfl
                refine Ev.congr (f := fun k => spec_l7Read.j2 k (st.out.map conv) st.made st.live n ws (ws.length : Int) (i : Int) true (bt s 0) n) (fun k => ?_) (Ev.step (fun k => ?_) N)
                · dsimp only
                  rw [if_pos rfl, if_pos b43, show (n == wrap64 (st.made + 1)) = true by rw [wrap_small (by omega) (by omega)]; exact beq_iff_eq.2 hn]
                · show spec_l7Read.j2 (k + 1) _ _ _ _ ws _ _ true _ _ = _
                  rw [spec_l7Read.j2, if_pos rfl, if_pos (by omega), if_pos (by rw [hml]; omega), hwi, mapc, ← hn]
              · have ht : tsign st s n = none := by
                  unfold tsign
                  rw [if_neg (fun h => hn h.2), if_neg (fun h => by rw [hsg, c43] at h; exact absurd h.1 (by decide)), if_neg (fun h => by rw [hsg, c43] at h; exact absurd h.1 (by decide))]
                refine Ev.congr (f := fun k => spec_l7Read.j2 k (st.out.map conv) st.made st.live n ws (ws.length : Int) (i : Int) false (bt s 0) n) (fun k => ?_) (Ev.step (f := fun k => spec_l7Read.j3 k (st.out.map conv) st.made st.live n ws (ws.length : Int) (i : Int) false (bt s 0) n) (fun k => ?_) (Ev.step (fun k => ?_) (stop (fun _ => ht))))
                · dsimp only
                  rw [if_pos rfl, if_pos b43, show (n == wrap64 (st.made + 1)) = false by rw [wrap_small (by omega) (by omega)]; exact beq_eq_false_iff_ne.2 hn]
                · show spec_l7Read.j2 (k + 1) _ _ _ _ ws _ _ false _ _ = _
                  rw [spec_l7Read.j2, if_neg (by decide), if_neg (by omega)]
                · show spec_l7Read.j3 (k + 1) _ _ _ _ ws _ _ false _ _ = _
                  rw [spec_l7Read.j3, if_neg (by decide), if_neg (by omega)]
            · have b43 : ¬ bt s 0 = 43 := fun e => c43 (byte_eq.2 (by rw [← hbh, e]; rfl))
              have n43 : ¬ ((sgn s).toList = [43] ∧ n = st.made + 1) := fun h => c43 (by rw [hsg] at h; exact (List.cons.inj h.1).1)
              refine Ev.congr (f := fun k => spec_l7Read.j2 k (st.out.map conv) st.made st.live n ws (ws.length : Int) (i : Int) false (bt s 0) n) (fun k => by dsimp only; rw [if_pos rfl, if_neg b43]) ?_
              by_cases c46 : c = 46
              · have b46 : bt s 0 = 46 := by rw [hbh, c46]; rfl
                refine Ev.step (f := fun k => (spec_l7In.f k st.live n).bind fun t => spec_l7Read.j3 k (st.out.map conv) st.made st.live n ws (ws.length : Int) (i : Int) t (bt s 0) n) (fun k => ?_) (Ev.bind (l7In_ev st.live n hlv) ?_)
                · show spec_l7Read.j2 (k + 1) _ _ _ _ ws _ _ false _ _ = _
                  rw [spec_l7Read.j2, if_neg (by decide), if_pos b46]
                · by_cases hliv : n ∈ st.live
                  · have ht : tsign st s n = some ⟨st.out ++ [⟨sgn s, n⟩], st.made, st.live⟩ := by unfold tsign; rw [if_neg n43, if_pos ⟨by rw [hsg, c46], hliv⟩]
                    have N := next _ ht rfl
                    refine Ev.step (fun k => ?_) N
                    show spec_l7Read.j3 (k + 1) _ _ _ _ ws _ _ (decide (n ∈ st.live)) _ _ = _
                    rw [spec_l7Read.j3, decide_eq_true hliv, if_pos rfl, if_pos (by rw [hml]; omega), hwi, mapc]
                  · have ht : tsign st s n = none := by unfold tsign; rw [if_neg n43, if_neg (fun h => hliv h.2), if_neg (fun h => hliv h.2)]
                    refine Ev.step (fun k => ?_) (stop (fun _ => ht))
                    show spec_l7Read.j3 (k + 1) _ _ _ _ ws _ _ (decide (n ∈ st.live)) _ _ = _
                    rw [spec_l7Read.j3, decide_eq_false hliv, if_neg (by decide), if_neg (by omega)]
              · have b46 : ¬ bt s 0 = 46 := fun e => c46 (byte_eq.2 (by rw [← hbh, e]; rfl))
                have n46 : ¬ ((sgn s).toList = [46] ∧ n ∈ st.live) := fun h => c46 (by rw [hsg] at h; exact (List.cons.inj h.1).1)
                refine Ev.step (f := fun k => spec_l7Read.j3 k (st.out.map conv) st.made st.live n ws (ws.length : Int) (i : Int) false (bt s 0) n) (fun k => ?_) ?_
                · show spec_l7Read.j2 (k + 1) _ _ _ _ ws _ _ false _ _ = _
                  rw [spec_l7Read.j2, if_neg (by decide), if_neg b46]
                · by_cases c45 : c = 45
                  · have b45 : bt s 0 = 45 := by rw [hbh, c45]; rfl
                    by_cases hliv : n ∈ st.live
                    · have ht : tsign st s n = some ⟨st.out ++ [⟨sgn s, n⟩], st.made, st.live.filter (fun y => y != n)⟩ := by unfold tsign; rw [if_neg n43, if_neg n46, if_pos ⟨by rw [hsg, c45], hliv⟩]
                      have N := next _ ht rfl
                      refine Ev.step (f := fun k => (spec_l7In.f k st.live n).bind fun t238 => (if t238 = true then ((spec_l7Without.f k st.live n).bind fun t239 => (if (st.out.map conv).length < 8796093022208 then (spec_l7Read.l0 k (st.out.map conv ++ [(⟨bt s 0, n⟩ : S63)]) st.made t239 ws (ws.length : Int) (wrap64 ((i : Int) + 1))) else (none))) else (some ((([] : List (S63))), false)))) (fun k => ?_) (Ev.bind (l7In_ev st.live n hlv) ?_)
                      · show spec_l7Read.j3 (k + 1) _ _ _ _ ws _ _ false _ _ = _
                        rw [spec_l7Read.j3, if_neg (by decide), if_pos b45]
                      · refine Ev.congr (fun k => ?_) (Ev.bind (f := fun k t239 => spec_l7Read.l0 k (st.out.map conv ++ [(⟨bt s 0, n⟩ : S63)]) st.made t239 ws (ws.length : Int) ((i + 1 : Nat) : Int)) (l7Without_ev st.live n hlv) ?_)
                        · try dsimp only
                          rw [decide_eq_true hliv, if_pos rfl]
                          simp only [if_pos (show (st.out.map conv).length < 8796093022208 by rw [hml]; omega), hwi]
                        · dsimp only at N
                          rw [mapc] at N
                          exact N
                    · have ht : tsign st s n = none := by unfold tsign; rw [if_neg n43, if_neg n46, if_neg (fun h => hliv h.2)]
                      refine Ev.step (f := fun k => (spec_l7In.f k st.live n).bind fun t238 => (if t238 = true then ((spec_l7Without.f k st.live n).bind fun t239 => (if (st.out.map conv).length < 8796093022208 then (spec_l7Read.l0 k (st.out.map conv ++ [(⟨bt s 0, n⟩ : S63)]) st.made t239 ws (ws.length : Int) (wrap64 ((i : Int) + 1))) else (none))) else (some ((([] : List (S63))), false)))) (fun k => ?_) (Ev.bind (l7In_ev st.live n hlv) (Ev.congr (fun k => ?_) (stop (fun _ => ht))))
                      · show spec_l7Read.j3 (k + 1) _ _ _ _ ws _ _ false _ _ = _
                        rw [spec_l7Read.j3, if_neg (by decide), if_pos b45]
                      · try dsimp only
                        rw [decide_eq_false hliv, if_neg (by decide)]
                  · have b45 : ¬ bt s 0 = 45 := fun e => c45 (byte_eq.2 (by rw [← hbh, e]; rfl))
                    have ht : tsign st s n = none := by unfold tsign; rw [if_neg n43, if_neg n46, if_neg (fun h => c45 (by rw [hsg] at h; exact (List.cons.inj h.1).1))]
                    refine Ev.step (fun k => ?_) (stop (fun _ => ht))
                    show spec_l7Read.j3 (k + 1) _ _ _ _ ws _ _ false _ _ = _
                    rw [spec_l7Read.j3, if_neg (by decide), if_neg b45]
theorem l7Read_ev (a0 : ByteArray) (hs : a0.size ≤ 1048576) : Ev (fun k => spec_l7Read.f k a0) ((toldOf a0).1.map conv, (toldOf a0).2.2) := by
  by_cases h : a0.toList = [45]
  · refine Ev.congr (f := fun _ => some (([] : List S63), true)) (fun k => ?_) ?_
    · unfold spec_l7Read.f
      rw [Option.bind_some, if_pos h]
    · unfold toldOf
      rw [if_pos h]
      exact Ev.now _
  · have hpl := pieces_length a0
    have hc := Lib.countB_le ⟨#[32]⟩ (by decide) a0.size a0 (Nat.le_refl _)
    have R := read_ev (pieces a0) (by omega) (pieces a0).length 0 ⟨[], 0, []⟩ (by omega) ⟨by simp, by simp, by simp, by simp, by simp⟩
    refine Ev.congr (f := fun k => (spec_l13Cut.f k a0 32).bind fun t => spec_l7Read.l0 k [] 0 [] t (t.length : Int) 0) (fun k => ?_) (Ev.bind (l13Cut_ev a0 hs) ?_)
    · unfold spec_l7Read.f
      rw [Option.bind_some, if_neg h]
    · unfold toldOf
      rw [if_neg h]
      rw [List.drop_zero] at R
      cases ht : tloop (pieces a0) ⟨[], 0, []⟩ with
      | none => rw [ht] at R; exact R
      | some st => rw [ht] at R; exact R
end Go.Proofs.YtndjbnkmhpbnpaaGreatDoor.Pr
namespace Go.Proofs.YtndjbnkmhpbnpaaGreatDoor.Pr
open Go.RowKit Go.Proofs.YtndjbnkmhpbnpaaGreatDoorW.PrintWords Go.Proofs.YtndjbnkmhpbnpaaGreatDoorW.PrintLast Go.Proofs.YtndjbnkmhpbnpaaGreatDoorW.PrintMore
theorem bt_sign {s : ByteArray} {c : UInt8} (h : s.toList = [c]) : bt s 0 = (c.toNat : Int) := bt_head (by rw [← Lib.toList_data]; exact h)
theorem rd62_at {o : List S55} {i : Nat} {e : S55} (h : o[i]? = some e) : rd_T55 o (i : Int) = e := by
 unfold rd_T55
 rw [List.getD_eq_getElem?_getD, Int.toNat_natCast, h]
 rfl
theorem rd59_at {o : List S55} {i : Nat} {e : S55} (h : o[i]? = some e) : rd_T63 (o.map conv) (i : Int) = conv e := by
 unfold rd_T63
 rw [List.getD_eq_getElem?_getD, Int.toNat_natCast, List.getElem?_map, h]
 rfl
theorem conv_43 {e : S55} (h : e.f0.toList = [43]) : (conv e).f0 = 43 := bt_sign h
theorem conv_46 {e : S55} (h : e.f0.toList = [46]) : (conv e).f0 = 46 := bt_sign h
theorem conv_45 {e : S55} (h : e.f0.toList = [45]) : (conv e).f0 = 45 := bt_sign h
theorem conv_f1 (e : S55) : (conv e).f1 = e.f1 := rfl
theorem lives_go {o : List S55} {m : Nat} {l : List Int} (h : Good o m l) (hl : o.length ≤ 1000000) : ∀ (d i : Nat), i + d = o.length →
  Ev (fun k => spec_l7Lives.l0 k (lvs (o.take i)) (o.map conv) ((o.map conv).length : Int) (i : Int)) (lvs o)
 | 0, i, hi => by
  refine Ev.step (f := fun _ => some (lvs o)) (fun k => ?_) (Ev.now _)
  show spec_l7Lives.l0 (k + 1) _ _ _ _ = _
  rw [spec_l7Lives.l0, if_neg (by simp; omega), List.take_of_length_le (by omega)]
 | d + 1, i, hi => by
  obtain ⟨e, m', l', h1, h2, h3, h4, h5⟩ := h.step i (by omega)
  have ih := lives_go h hl d (i + 1) (by omega)
  have hm := h3.made
  have hll := h3.lvs_length
  simp only [List.length_take] at hm
  refine Ev.step (fun k => ?_) ih
  show spec_l7Lives.l0 (k + 1) _ _ _ _ = _
  rw [spec_l7Lives.l0, if_pos (by simp; omega), if_pos (by omega), if_pos (by simp; omega), rd59_at h1, wrap_up (by omega), h2, lvs_snoc, List.length_take, Nat.min_eq_left (by omega)]
  rcases h5 with ⟨hs, _⟩ | ⟨hs, hn, _⟩ | ⟨hs, hn, _⟩
  ·rw [if_pos (conv_43 hs), if_pos (by omega), lvset1_43 hs]
  ·have hr := h3.range _ hn
   have hw : wrap64 (e.f1 - 1) = e.f1 - 1 := wrap_small (by omega) (by omega)
   rw [if_neg (by rw [conv_46 hs]; decide), if_pos (conv_46 hs), conv_f1, hw, if_pos (by omega), if_pos (by omega), lvset1_46 hs]
  ·have hr := h3.range _ hn
   have hw : wrap64 (e.f1 - 1) = e.f1 - 1 := wrap_small (by omega) (by omega)
   rw [if_neg (by rw [conv_45 hs]; decide), if_neg (by rw [conv_45 hs]; decide), if_pos (conv_45 hs), conv_f1, hw, if_pos (by omega), if_pos (by omega), lvset1_45 hs]
theorem lives_ev {o : List S55} {m : Nat} {l : List Int} (h : Good o m l) (hl : o.length ≤ 1000000) : Ev (fun k => spec_l7Lives.f k (o.map conv)) (lvs o) :=
 lives_go h hl o.length 0 (by omega)
theorem lives_told {o : List S55} {m : Nat} {l : List Int} (h : Good o m l) (hl : o.length ≤ 1000000) : impl_lives.f o (m : Int) = some (lvs o) := by
 have hm := h.made
 unfold impl_lives.f
 rw [if_pos ⟨by omega, by omega, by omega, h.values⟩, Int.toNat_natCast, h.lvloop m (Nat.le_refl _), Nat.sub_self]
 simp
theorem alive_go (xs : List S31) (a1 : Int) (hx : xs.length ≤ 1000000) : ∀ (d i : Nat) (acc : List Int), i + d = xs.length → acc.length ≤ i →
  Ev (fun k => impl_alive.l0 k a1 acc xs (xs.length : Int) (i : Int)) (acc ++ alv (xs.drop i) i a1)
 | 0, i, acc, hi, ha => by
  refine Ev.step (f := fun _ => some (acc ++ alv (xs.drop i) i a1)) (fun k => ?_) (Ev.now _)
  show impl_alive.l0 (k + 1) _ _ _ _ _ = _
  rw [impl_alive.l0, if_neg (by omega), List.drop_of_length_le (by omega), alv, List.append_nil]
 | d + 1, i, acc, hi, ha => by
  have hlt : i < xs.length := by omega
  have ih1 := alive_go xs a1 hx d (i + 1) acc (by omega) (by omega)
  have ih2 := alive_go xs a1 hx d (i + 1) (acc ++ [((i + 1 : Nat) : Int)]) (by omega) (by simp; omega)
  rw [List.drop_eq_getElem_cons hlt, alv]
  by_cases h : xs[i].f0 ≤ a1 ∧ (xs[i].f2 < 0 ∨ a1 < xs[i].f2)
  ·rw [if_pos h]
   rw [List.append_assoc] at ih2
   refine Ev.step (fun k => ?_) ih2
   show impl_alive.l0 (k + 1) _ _ _ _ _ = _
   rw [impl_alive.l0, if_pos (by omega), if_pos (by omega), if_pos (by omega), rd48_at hlt, wrap_up (by omega), if_pos h.1]
   by_cases h2 : xs[i].f2 < 0
   ·rw [if_pos h2, if_pos (by omega)]
   ·rw [if_neg h2, if_pos (by omega), if_pos (by omega)]
  ·rw [if_neg h]
   refine Ev.step (fun k => ?_) ih1
   show impl_alive.l0 (k + 1) _ _ _ _ _ = _
   rw [impl_alive.l0, if_pos (by omega), if_pos (by omega), if_pos (by omega), rd48_at hlt, wrap_up (by omega)]
   by_cases h2 : xs[i].f0 ≤ a1
   ·rw [if_pos h2, if_neg (by omega), if_neg (by omega)]
   ·rw [if_neg h2]
theorem alive_ev (xs : List S31) (a1 : Int) (hx : xs.length ≤ 1000000) : Ev (fun k => impl_alive.f k xs a1) (alv xs 0 a1) :=
 alive_go xs a1 hx xs.length 0 [] (by omega) (by simp)
theorem l7Alive_go (xs : List S31) (a1 : Int) (hx : xs.length ≤ 1000000) : ∀ (d i : Nat) (acc : List Int), i + d = xs.length → acc.length ≤ i →
  Ev (fun k => spec_l7Alive.l0 k a1 acc xs (xs.length : Int) (i : Int)) (acc ++ alv (xs.drop i) i a1)
 | 0, i, acc, hi, ha => by
  refine Ev.step (f := fun _ => some (acc ++ alv (xs.drop i) i a1)) (fun k => ?_) (Ev.now _)
  show spec_l7Alive.l0 (k + 1) _ _ _ _ _ = _
  rw [spec_l7Alive.l0, if_neg (by omega), List.drop_of_length_le (by omega), alv, List.append_nil]
 | d + 1, i, acc, hi, ha => by
  have hlt : i < xs.length := by omega
  have ih1 := l7Alive_go xs a1 hx d (i + 1) acc (by omega) (by omega)
  have ih2 := l7Alive_go xs a1 hx d (i + 1) (acc ++ [((i + 1 : Nat) : Int)]) (by omega) (by simp; omega)
  rw [List.drop_eq_getElem_cons hlt, alv]
  by_cases h : xs[i].f0 ≤ a1 ∧ (xs[i].f2 < 0 ∨ a1 < xs[i].f2)
  ·rw [if_pos h]
   rw [List.append_assoc] at ih2
   refine Ev.step (fun k => ?_) ih2
   show spec_l7Alive.l0 (k + 1) _ _ _ _ _ = _
   rw [spec_l7Alive.l0, if_pos (by omega), if_pos (by omega), if_pos (by omega), rd48_at hlt, wrap_up (by omega), if_pos h.1]
   by_cases h2 : xs[i].f2 < 0
   ·rw [if_pos h2, if_pos (by omega)]
   ·rw [if_neg h2, if_pos (by omega), if_pos (by omega)]
  ·rw [if_neg h]
   refine Ev.step (fun k => ?_) ih1
   show spec_l7Alive.l0 (k + 1) _ _ _ _ _ = _
   rw [spec_l7Alive.l0, if_pos (by omega), if_pos (by omega), if_pos (by omega), rd48_at hlt, wrap_up (by omega)]
   by_cases h2 : xs[i].f0 ≤ a1
   ·rw [if_pos h2, if_neg (by omega), if_neg (by omega)]
   ·rw [if_neg h2]
theorem l7Alive_ev (xs : List S31) (a1 : Int) (hx : xs.length ≤ 1000000) : Ev (fun k => spec_l7Alive.f k xs a1) (alv xs 0 a1) :=
 l7Alive_go xs a1 hx xs.length 0 [] (by omega) (by simp)
def TG (st : Tst) : Prop := ∃ m : Nat, st.made = (m : Int) ∧ Good st.out m st.live
theorem tsign_good {st st' : Tst} {s : ByteArray} {n : Int} (g : TG st) (h : tsign st s n = some st') : TG st' := by
 obtain ⟨m, hm, g⟩ := g
 unfold tsign at h
 split at h
 ·rename_i hc
  injection h with h
  subst h
  obtain ⟨hs, hn⟩ := hc
  refine ⟨m + 1, by dsimp only; omega, ?_⟩
  have e : n = ((m + 1 : Nat) : Int) := by omega
  rw [e]
  exact g.make hs
 ·split at h
  ·rename_i hc
   injection h with h
   subst h
   exact ⟨m, hm, g.use hc.1 hc.2⟩
  ·split at h
   ·rename_i hc
    injection h with h
    subst h
    exact ⟨m, hm, g.kill hc.1 hc.2⟩
   ·cases h
theorem tsign_len {st st' : Tst} {s : ByteArray} {n : Int} (h : tsign st s n = some st') : st'.out.length = st.out.length + 1 := by
 unfold tsign at h
 split at h
 ·injection h with h; subst h; simp
 ·split at h
  ·injection h with h; subst h; simp
  ·split at h
   ·injection h with h; subst h; simp
   ·cases h
theorem tloop_good : ∀ (ws : List ByteArray) (st st' : Tst), TG st → st.out.length ≤ 600 → tloop ws st = some st' → TG st' ∧ st'.out.length ≤ 600
 | [], st, st', g, hl, h => by
  rw [tloop] at h
  injection h with h
  subst h
  exact ⟨g, hl⟩
 | s :: r, st, st', g, hl, h => by
  rw [tloop] at h
  cases hs : tstep st s with
  | none => rw [hs] at h; cases h
  | some st1 =>
   rw [hs] at h
   unfold tstep at hs
   split at hs
   ·cases hs
   ·split at hs
    ·cases hs
    ·split at hs
     ·cases hs
     ·exact tloop_good r st1 st' (tsign_good g hs) (by have := tsign_len hs; omega) h
theorem told_good (a0 : ByteArray) : ∃ (m : Nat) (l : List Int), Good (toldOf a0).1 m l ∧ (toldOf a0).2.1 = (m : Int) ∧ (toldOf a0).1.length ≤ 600 := by
 unfold toldOf
 split
 ·exact ⟨0, [], .nil, rfl, by simp⟩
 ·split
  ·exact ⟨0, [], .nil, rfl, by simp⟩
  ·rename_i st hst
   obtain ⟨⟨m, hm, g⟩, hl⟩ := tloop_good _ _ _ ⟨0, rfl, .nil⟩ (by simp) hst
   exact ⟨m, st.live, g, hm, hl⟩
theorem told_f (a0 : ByteArray) (hs : a0.size ≤ 1048576) : impl_told.f a0 = some (toldOf a0) := by unfold impl_told.f; rw [if_pos hs]
end Go.Proofs.YtndjbnkmhpbnpaaGreatDoor.Pr
namespace Go.Proofs.YtndjbnkmhpbnpaaGreatDoor.Pr
open Go.RowKit Go.Proofs.YtndjbnkmhpbnpaaGreatDoorW.PrintWords Go.Proofs.YtndjbnkmhpbnpaaGreatDoorW.PrintLast Go.Proofs.YtndjbnkmhpbnpaaGreatDoorW.PrintMore
set_option linter.unusedVariables false
set_option linter.unusedSimpArgs false
theorem get_snoc {o : List S55} {e e' : S55} {i : Nat} (h : (o ++ [e'])[i]? = some e) : (i < o.length ∧ o[i]? = some e) ∨ (i = o.length ∧ e = e') := by
 by_cases hi : i < o.length
 ·rw [List.getElem?_append_left hi] at h
  exact .inl ⟨hi, h⟩
 ·rw [List.getElem?_append_right (by omega)] at h
  cases hk : i - o.length with
  | zero =>
   rw [hk] at h
   simp at h
   exact .inr ⟨by omega, h.symm⟩
  | succ n => rw [hk] at h; simp at h
theorem get_left {o : List S55} {e e' : S55} {i : Nat} (h : o[i]? = some e) : (o ++ [e'])[i]? = some e := by
 have hi : i < o.length := (List.getElem?_eq_some_iff.1 h).1
 rw [List.getElem?_append_left hi]
 exact h
theorem get_end (o : List S55) (e : S55) : (o ++ [e])[o.length]? = some e := by simp
end Go.Proofs.YtndjbnkmhpbnpaaGreatDoor.Pr
namespace Go.Proofs.YtndjbnkmhpbnpaaGreatDoor.Pr
open Go.RowKit Go.Proofs.YtndjbnkmhpbnpaaGreatDoorW.PrintWords Go.Proofs.YtndjbnkmhpbnpaaGreatDoorW.PrintLast Go.Proofs.YtndjbnkmhpbnpaaGreatDoorW.PrintMore
attribute [local go_sem] max2_int min2_int max_two min_two max_three min_three max_four min_four   -- for this text's walks alone
set_option linter.unusedVariables false
set_option linter.unusedSimpArgs false
def impl_MostAlive.l0 : Nat → Int → List (S31) → Int → Int → Option (Int)
 | 0, _, _, _, _ => none
 | k + 1, x6, x7, x21, x22 => if x22 < x21 then ((impl_alive.f k x7 x22).bind fun t287 => (impl_MostAlive.l0 k (mx x6 (t287.length : Int)) x7 x21 (wrap64 (x22 + 1)))) else (some x6)
def impl_MostAlive.f (k : Nat) (a0 : ByteArray) : Option (Int) := (impl_told.f a0).bind fun bt279 => (if bt279.2.2 = true then ((impl_lives.f bt279.1 bt279.2.1).bind fun t284 => (impl_MostAlive.l0 k 0 t284 (bt279.1.length : Int) 0)) else (some (-1)))
set_option maxHeartbeats 8000000 in
set_option maxRecDepth 100000 in
theorem impl_MostAlive.calls (k : Nat) (a0 : ByteArray) (r : Int) (w : World) (hLd : LaidW w) (h : impl_MostAlive.f k a0 = some r) :
  Calls Tryz.prog 15 #[.string a0] w fun e w' => e = .returned (.int .i64 r) ∧ Below w.heap.size w w' := by
 have HB := Az.mk (Below.refl w.heap.size w)
 have HLd := Az.mk hLd
 clear hLd
 have H : ((impl_told.f a0).bind fun bt279 => (if bt279.2.2 = true then ((impl_lives.f bt279.1 bt279.2.1).bind fun t284 => (impl_MostAlive.l0 k 0 t284 (bt279.1.length : Int) 0)) else (some (-1)))) = some r := h
 clear h
 replace H := Option.bind_eq_some_iff.mp H
 obtain ⟨⟨t279, t280, t281⟩, A20, H⟩ := H
 replace H : (if t281 = true then ((impl_lives.f t279 t280).bind fun t284 => (impl_MostAlive.l0 k 0 t284 (t279.length : Int) 0)) else (some (-1))) = some r := H
 have A2 := Az.mk A20
 clear A20
 by_cases c3 : t281 = true
 ·subst c3
  have H1 : ((impl_lives.f t279 t280).bind fun t284 => (impl_MostAlive.l0 k 0 t284 (t279.length : Int) 0)) = some r := by rw [if_pos rfl] at H; exact H
  clear H
  have H := H1
  clear H1
  replace H := Option.bind_eq_some_iff.mp H
  obtain ⟨t284, A40, H⟩ := H
  replace H : (impl_MostAlive.l0 k 0 t284 (t279.length : Int) 0) = some r := H
  have A4 := Az.mk A40
  clear A40
  have H' := Az.mk H
  clear H
  go_enter Tryz.func15, Tryz.ntmps15
  go_wp2_with (first | ((with_reducible refine gate_callee (f := 50) rfl ?_); refine goesL_ (some 11) rfl rfl Tryz.func50 (by kernel_rfl) rfl #[.string a0] rfl (by (try simp only [List.map_toArray, List.map_cons, List.map_nil]); first | done | rfl | (simp only [List.length_drop, List.length_take]; rfl)) ?_; (with_reducible refine (impl_told.calls a0 t279 t280 true _ (HLd.out.below (by repeat first|exact HB.out|apply bA|apply bN|apply bD)) A2.out).mono ?_); rintro e w5 ⟨v282, rfl, ho0, hb⟩; refine ⟨_, rfl, ?_⟩; have n0_ := Az.mk (Kd.R_lower ho0 (bZ (by repeat first|exact HB.out|apply bA|apply bN|apply bD))); have n1_ := Az.mk (bS (by repeat first|exact HB.out|apply bA|apply bN|apply bD) hb); clear HB; have HO283 := n0_; have HB := n1_; clear n0_ n1_; (try clear hb); (try clear hb2); (try clear hk); (try clear hi); (try clear ho0); obtain ⟨Ao6, co6, eo6⟩ := Kd.R_slice HO283.out; subst eo6) | ((with_reducible refine gate_callee (f := 51) rfl ?_); refine goesL_ (some 19) rfl rfl Tryz.func51 (by kernel_rfl) rfl #[.slice Ao6 t279.length co6, .int .i64 t280] rfl (by (try simp only [List.map_toArray, List.map_cons, List.map_nil]); first | done | rfl | (simp only [List.length_drop, List.length_take]; rfl)) ?_; (with_reducible refine (impl_lives.calls _ _ t279 t280 t284 _ ?side1 ?side2 A4.out).mono ?_); (case side1 => repeat (first | exact (Kd.R_reads' HO283.out).2.2 | (with_reducible refine Kd.C_alloc ?_ _) | (with_reducible refine Kd.C_drewN ?_ _) | (with_reducible refine Kd.C_drew ?_))); (case side2 => exact (Kd.R_reads' HO283.out).2.1); rintro e w7 ⟨v285, rfl, ho0, hb⟩; refine ⟨_, rfl, ?_⟩; have n0_ := Az.mk (Kd.Rb (by (with_reducible repeat first|apply Kd.Ra|apply Kd.Rn|apply Kd.Rw); exact HO283.out) hb); have n1_ := Az.mk (Kd.R_lower ho0 (bZ (by repeat first|exact HB.out|apply bA|apply bN|apply bD))); have n2_ := Az.mk (bS (by repeat first|exact HB.out|apply bA|apply bN|apply bD) hb); clear HO283; clear HB; have HO283 := n0_; have HO286 := n1_; have HB := n2_; clear n0_ n1_ n2_; (try clear hb); (try clear hb2); (try clear hk); (try clear hi); (try clear ho0)))
  go_loopg [6, 22] k (fun kq v6 v22 w' => ∃ (x6_1 : Int) (x22_1 : Int), v6 = .int .i64 x6_1 ∧ v22 = .int .i64 x22_1 ∧ Az (impl_MostAlive.l0 kq x6_1 t284 (t279.length : Int) x22_1 = some r) ∧ Az (kq ≤ k) ∧ Az (Kd.R k31 31 w' w.heap.size (fun _ => True) v285 t284) ∧ Az (Below w.heap.size w w'))
  case atStart => exact ⟨(0), (0), (by first | rfl | (simp; done) | (simp [*]; done)), (by first | rfl | (simp; done) | (simp [*]; done)), H', ⟨Nat.le_refl _⟩, ⟨by (with_reducible repeat first|apply Kd.Ra|apply Kd.Rn|apply Kd.Rw); exact HO286.out⟩, ⟨by repeat (first | (with_reducible first|exact HB.out|apply bA|apply bN|apply bD) | exact HB.out)⟩⟩
  case round =>
   clear H'
   try clear c1
   try clear p2
   try clear c3
   try clear c5
   obtain ⟨x6_1, x22_1, rfl, rfl, HA, HK1, HO_7, HB⟩ := hrel
   cases gk with
   | zero => exact absurd HA.out (by simp [impl_MostAlive.l0])
   | succ k1 =>
    have H := HA.out
    clear HA
    simp only [impl_MostAlive.l0] at H
    by_cases c8 : x22_1 < (t279.length : Int)
    ·rw [if_pos c8] at H
     have c8b0 : decide (x22_1 < (t279.length : Int)) = true := decide_eq_true c8
     clear c8
     replace H := Option.bind_eq_some_iff.mp H
     obtain ⟨t287, A90, H⟩ := H
     replace H : (impl_MostAlive.l0 k1 (mx x6_1 (t287.length : Int)) t284 (t279.length : Int) (wrap64 (x22_1 + 1))) = some r := H
     have A9 := Az.mk A90
     clear A90
     obtain ⟨ji10, hji10⟩ : ∃ j_ : Int, (mx x6_1 (t287.length : Int)) = j_ := ⟨_, rfl⟩
     replace H : (impl_MostAlive.l0 k1 ji10 t284 (t279.length : Int) (wrap64 (x22_1 + 1))) = some r := by first | (rw [hji10] at H; exact H) | (simp only [hji10] at H ⊢; exact H)
     (try rw [hji10] at A9)
     have hji10_ : (if x6_1 < (t287.length : Int) then (t287.length : Int) else x6_1) = ji10 := hji10
     have H' := Az.mk H
     clear H
     obtain ⟨Ao11, co11, eo11⟩ := Kd.R_slice HO_7.out
     subst eo11
     go_wp2_with (first | ((with_reducible refine gate_callee (f := 57) rfl ?_); refine goesL_ (some 28) rfl rfl Tryz.func57 (by kernel_rfl) rfl #[.slice Ao11 t284.length co11, .int .i64 x22_1] rfl (by (try simp only [List.map_toArray, List.map_cons, List.map_nil]); first | done | rfl | (simp only [List.length_drop, List.length_take]; rfl)) ?_; (with_reducible refine (impl_alive.calls k1 _ _ t284 x22_1 t287 _ ?side1 ?side2 A9.out).mono ?_); (case side1 => repeat (first | exact (Kd.R_reads' HO_7.out).2.2 | (with_reducible refine Kd.C_alloc ?_ _) | (with_reducible refine Kd.C_drewN ?_ _) | (with_reducible refine Kd.C_drew ?_))); (case side2 => exact (Kd.R_reads' HO_7.out).2.1); rintro e w12 ⟨v288, rfl, ho0, hb⟩; refine ⟨_, rfl, ?_⟩; have n0_ := Az.mk (Kd.Rb (by (with_reducible repeat first|apply Kd.Ra|apply Kd.Rn|apply Kd.Rw); exact HO_7.out) hb); have n1_ := Az.mk (Kd.R_lower ho0 (bZ (by repeat first|exact HB.out|apply bA|apply bN|apply bD))); have n2_ := Az.mk (bS (by repeat first|exact HB.out|apply bA|apply bN|apply bD) hb); clear HO_7; clear HB; have HO_7 := n0_; have HO289 := n1_; have HB := n2_; clear n0_ n1_ n2_; (try clear hb); (try clear hb2); (try clear hk); (try clear hi); (try clear ho0); obtain ⟨Ao13, co13, eo13⟩ := Kd.R_slice HO289.out; subst eo13))
     go_roundg k1
     case measure => have := HK1.out; omega
     case rel => exact ⟨(ji10), (wrap64 (x22_1 + 1)), (by first | rfl | (simp; done) | (simp only [← hji10] <;> (first | rfl | simp)) | (simp [*]; done)), (by first | rfl | (simp; done) | (simp [*]; done)), H', ⟨by have := HK1.out; omega⟩, ⟨by (with_reducible repeat first|apply Kd.Ra|apply Kd.Rn|apply Kd.Rw); exact HO_7.out⟩, ⟨by repeat (first | (with_reducible first|exact HB.out|apply bA|apply bN|apply bD) | exact HB.out)⟩⟩
    ·rw [if_neg c8] at H
     have c8b0 : decide (x22_1 < (t279.length : Int)) = false := decide_eq_false c8
     clear c8
     obtain rfl := Option.some.inj H
     go_wp2
     go_ret
     exact ⟨by first | rfl | (simp [errW_none, errW_some] <;> rfl) | (simp [*, errW_none, errW_some] <;> rfl), by repeat (first | (with_reducible first|exact HB.out|apply bA|apply bN|apply bD) | exact HB.out)⟩
 ·replace c3 := Bool.eq_false_iff.mpr c3
  subst c3
  have H1 : (some (-1)) = some r := by rw [if_neg (show ¬ (false = true) by decide)] at H; exact H
  clear H
  have H := H1
  clear H1
  obtain rfl := Option.some.inj H
  go_enter Tryz.func15, Tryz.ntmps15
  go_wp2_with (first | ((with_reducible refine gate_callee (f := 50) rfl ?_); refine goesL_ (some 11) rfl rfl Tryz.func50 (by kernel_rfl) rfl #[.string a0] rfl (by (try simp only [List.map_toArray, List.map_cons, List.map_nil]); first | done | rfl | (simp only [List.length_drop, List.length_take]; rfl)) ?_; (with_reducible refine (impl_told.calls a0 t279 t280 false _ (HLd.out.below (by repeat first|exact HB.out|apply bA|apply bN|apply bD)) A2.out).mono ?_); rintro e w14 ⟨v282, rfl, ho0, hb⟩; refine ⟨_, rfl, ?_⟩; have n0_ := Az.mk (Kd.R_lower ho0 (bZ (by repeat first|exact HB.out|apply bA|apply bN|apply bD))); have n1_ := Az.mk (bS (by repeat first|exact HB.out|apply bA|apply bN|apply bD) hb); clear HB; have HO283 := n0_; have HB := n1_; clear n0_ n1_; (try clear hb); (try clear hb2); (try clear hk); (try clear hi); (try clear ho0)))
  go_ret
  exact ⟨by first | rfl | (simp [errW_none, errW_some] <;> rfl) | (simp [*, errW_none, errW_some] <;> rfl), by repeat (first | (with_reducible first|exact HB.out|apply bA|apply bN|apply bD) | exact HB.out)⟩
end Go.Proofs.YtndjbnkmhpbnpaaGreatDoor.Pr
namespace Go.Proofs.YtndjbnkmhpbnpaaGreatDoor.Pr
open Go.RowKit Go.Proofs.YtndjbnkmhpbnpaaGreatDoorW.PrintWords Go.Proofs.YtndjbnkmhpbnpaaGreatDoorW.PrintLast Go.Proofs.YtndjbnkmhpbnpaaGreatDoorW.PrintMore
def mst (xs : List S31) : Nat → Int → Int → Int
 | 0, _, a => a
 | d + 1, i, a => mst xs d (i + 1) (mx a ((alv xs 0 i).length : Int))
def mostOf (a0 : ByteArray) : Int := if (toldOf a0).2.2 = true then mst (lvs (toldOf a0).1) (toldOf a0).1.length 0 0 else -1
theorem mostS_go {o : List S55} {m : Nat} {l : List Int} (g : Good o m l) (hl : o.length ≤ 1000000) : ∀ (d i : Nat) (a : Int), i + d = o.length →
  Ev (fun k => spec_MostAlive.l0 k (o.map conv) a ((o.map conv).length : Int) (i : Int)) (mst (lvs o) d i a)
 | 0, i, a, hi => by
  refine Ev.step (fun k => spec_MostAlive.l0.eq_2 (k := k) ..) ?_
  simp only [if_neg (show ¬ ((i : Int) < ((o.map conv).length : Int)) by simp; omega)]
  exact Ev.now _
 | d + 1, i, a, hi => by
  have h1 := g.lvs_length
  have h2 := g.made
  have ih := mostS_go g hl d (i + 1) (mx a ((alv (lvs o) 0 i).length : Int)) (by omega)
  refine Ev.step (fun k => spec_MostAlive.l0.eq_2 (k := k) ..) ?_
  simp only [if_pos (show ((i : Int) < ((o.map conv).length : Int)) by simp; omega)]
  refine Ev.bind (lives_ev g hl) (Ev.bind (l7Alive_ev _ _ (by omega)) ?_)
  rw [wrap_up (by omega)]
  exact ih
theorem mostI_go (xs : List S31) (hx : xs.length ≤ 1000000) (n : Nat) (hn : n ≤ 1000000) : ∀ (d i : Nat) (a : Int), i + d = n →
  Ev (fun k => impl_MostAlive.l0 k a xs (n : Int) (i : Int)) (mst xs d i a)
 | 0, i, a, hi => by
  refine Ev.step (fun k => impl_MostAlive.l0.eq_2 (k := k) ..) ?_
  simp only [if_neg (show ¬ ((i : Int) < (n : Int)) by omega)]
  exact Ev.now _
 | d + 1, i, a, hi => by
  have ih := mostI_go xs hx n hn d (i + 1) (mx a ((alv xs 0 i).length : Int)) (by omega)
  refine Ev.step (fun k => impl_MostAlive.l0.eq_2 (k := k) ..) ?_
  simp only [if_pos (show ((i : Int) < (n : Int)) by omega)]
  refine Ev.bind (alive_ev _ _ hx) ?_
  rw [wrap_up (by omega)]
  exact ih
theorem mostS_ev (a0 : ByteArray) (hs : a0.size ≤ 1048576) : Ev (fun k => spec_MostAlive.f k a0) (mostOf a0) := by
 obtain ⟨m, l, g, hm, hl⟩ := told_good a0
 unfold spec_MostAlive.f mostOf
 refine Ev.bind (l7Read_ev a0 hs) ?_
 dsimp only
 split
 ·exact mostS_go g (by omega) _ 0 0 (Nat.zero_add _)
 ·exact Ev.now _
theorem mostI_ev (a0 : ByteArray) (hs : a0.size ≤ 1048576) : Ev (fun k => impl_MostAlive.f k a0) (mostOf a0) := by
 obtain ⟨m, l, g, hm, hl⟩ := told_good a0
 have h1 := g.lvs_length
 have h2 := g.made
 unfold impl_MostAlive.f mostOf
 simp only [told_f a0 hs, Option.bind_some, hm]
 split
 ·simp only [lives_told g (by omega), Option.bind_some]
  exact mostI_go _ (by omega) _ (by omega) _ 0 0 (Nat.zero_add _)
 ·exact Ev.now _
end Go.Proofs.YtndjbnkmhpbnpaaGreatDoor.Pr
namespace Go.Proofs.YtndjbnkmhpbnpaaGreatDoor.Pr
open Go.RowKit Go.Proofs.YtndjbnkmhpbnpaaGreatDoorW.PrintWords Go.Proofs.YtndjbnkmhpbnpaaGreatDoorW.PrintLast Go.Proofs.YtndjbnkmhpbnpaaGreatDoorW.PrintMore
attribute [local go_sem] max2_int min2_int max_two min_two max_three min_three max_four min_four   -- for this text's walks alone
set_option linter.unusedVariables false
set_option linter.unusedSimpArgs false
def impl_LivesOf.f (a0 : ByteArray) : Option ((List (S31)) × Bool) := (impl_told.f a0).bind fun bt245 => (if bt245.2.2 = true then ((impl_lives.f bt245.1 bt245.2.1).bind fun t250 => (some (t250, true))) else (some (([] : List (S31)), false)))
set_option maxHeartbeats 8000000 in
set_option maxRecDepth 100000 in
theorem impl_LivesOf.calls (a0 : ByteArray) (r1 : List (S31)) (r2 : Bool) (w : World) (hLd : LaidW w) (h : impl_LivesOf.f a0 = some (r1, r2)) :
  Calls Tryz.prog 14 #[.string a0] w fun e w' => ∃ v0_ : Value, e = .returned (.tuple #[v0_, .bool r2]) ∧ Kd.R k31 31 w' w.heap.size (fun _ => True) v0_ r1 ∧ Below w.heap.size w w' := by
 have HB := Az.mk (Below.refl w.heap.size w)
 have HLd := Az.mk hLd
 clear hLd
 have H : ((impl_told.f a0).bind fun bt245 => (if bt245.2.2 = true then ((impl_lives.f bt245.1 bt245.2.1).bind fun t250 => (some (t250, true))) else (some (([] : List (S31)), false)))) = some (r1, r2) := h
 clear h
 replace H := Option.bind_eq_some_iff.mp H
 obtain ⟨⟨t245, t246, t247⟩, A20, H⟩ := H
 replace H : (if t247 = true then ((impl_lives.f t245 t246).bind fun t250 => (some (t250, true))) else (some (([] : List (S31)), false))) = some (r1, r2) := H
 have A2 := Az.mk A20
 clear A20
 by_cases c3 : t247 = true
 ·subst c3
  have H1 : ((impl_lives.f t245 t246).bind fun t250 => (some (t250, true))) = some (r1, r2) := by rw [if_pos rfl] at H; exact H
  clear H
  have H := H1
  clear H1
  replace H := Option.bind_eq_some_iff.mp H
  obtain ⟨t250, A40, H⟩ := H
  replace H : (some (t250, true)) = some (r1, r2) := H
  have A4 := Az.mk A40
  clear A40
  simp only [Option.some.injEq, Prod.mk.injEq] at H
  obtain ⟨rfl, rfl⟩ := H
  go_enter Tryz.func14, Tryz.ntmps14
  go_wp2_with (first | ((with_reducible refine gate_callee (f := 50) rfl ?_); refine goesL_ (some 9) rfl rfl Tryz.func50 (by kernel_rfl) rfl #[.string a0] rfl (by (try simp only [List.map_toArray, List.map_cons, List.map_nil]); first | done | rfl | (simp only [List.length_drop, List.length_take]; rfl)) ?_; (with_reducible refine (impl_told.calls a0 t245 t246 true _ (HLd.out.below (by repeat first|exact HB.out|apply bA|apply bN|apply bD)) A2.out).mono ?_); rintro e w5 ⟨v248, rfl, ho0, hb⟩; refine ⟨_, rfl, ?_⟩; have n0_ := Az.mk (Kd.R_lower ho0 (bZ (by repeat first|exact HB.out|apply bA|apply bN|apply bD))); have n1_ := Az.mk (bS (by repeat first|exact HB.out|apply bA|apply bN|apply bD) hb); clear HB; have HO249 := n0_; have HB := n1_; clear n0_ n1_; (try clear hb); (try clear hb2); (try clear hk); (try clear hi); (try clear ho0); obtain ⟨Ao6, co6, eo6⟩ := Kd.R_slice HO249.out; subst eo6) | ((with_reducible refine gate_callee (f := 51) rfl ?_); refine goesL_ (some 17) rfl rfl Tryz.func51 (by kernel_rfl) rfl #[.slice Ao6 t245.length co6, .int .i64 t246] rfl (by (try simp only [List.map_toArray, List.map_cons, List.map_nil]); first | done | rfl | (simp only [List.length_drop, List.length_take]; rfl)) ?_; (with_reducible refine (impl_lives.calls _ _ t245 t246 t250 _ ?side1 ?side2 A4.out).mono ?_); (case side1 => repeat (first | exact (Kd.R_reads' HO249.out).2.2 | (with_reducible refine Kd.C_alloc ?_ _) | (with_reducible refine Kd.C_drewN ?_ _) | (with_reducible refine Kd.C_drew ?_))); (case side2 => exact (Kd.R_reads' HO249.out).2.1); rintro e w7 ⟨v251, rfl, ho0, hb⟩; refine ⟨_, rfl, ?_⟩; have n0_ := Az.mk (Kd.Rb (by (with_reducible repeat first|apply Kd.Ra|apply Kd.Rn|apply Kd.Rw); exact HO249.out) hb); have n1_ := Az.mk (Kd.R_lower ho0 (bZ (by repeat first|exact HB.out|apply bA|apply bN|apply bD))); have n2_ := Az.mk (bS (by repeat first|exact HB.out|apply bA|apply bN|apply bD) hb); clear HO249; clear HB; have HO249 := n0_; have HO252 := n1_; have HB := n2_; clear n0_ n1_ n2_; (try clear hb); (try clear hb2); (try clear hk); (try clear hi); (try clear ho0)))
  go_ret2
  exact ⟨_, by first | rfl | (simp [errW_none, errW_some] <;> rfl) | (simp [*, errW_none, errW_some] <;> rfl), by (with_reducible repeat first|apply Kd.Ra|apply Kd.Rn|apply Kd.Rw); exact HO252.out, by repeat (first | (with_reducible first|exact HB.out|apply bA|apply bN|apply bD) | exact HB.out)⟩
 ·replace c3 := Bool.eq_false_iff.mpr c3
  subst c3
  have H1 : (some (([] : List (S31)), false)) = some (r1, r2) := by rw [if_neg (show ¬ (false = true) by decide)] at H; exact H
  clear H
  have H := H1
  clear H1
  simp only [Option.some.injEq, Prod.mk.injEq] at H
  obtain ⟨rfl, rfl⟩ := H
  go_enter Tryz.func14, Tryz.ntmps14
  go_wp2_with (first | ((with_reducible refine gate_callee (f := 50) rfl ?_); refine goesL_ (some 9) rfl rfl Tryz.func50 (by kernel_rfl) rfl #[.string a0] rfl (by (try simp only [List.map_toArray, List.map_cons, List.map_nil]); first | done | rfl | (simp only [List.length_drop, List.length_take]; rfl)) ?_; (with_reducible refine (impl_told.calls a0 t245 t246 false _ (HLd.out.below (by repeat first|exact HB.out|apply bA|apply bN|apply bD)) A2.out).mono ?_); rintro e w8 ⟨v248, rfl, ho0, hb⟩; refine ⟨_, rfl, ?_⟩; have n0_ := Az.mk (Kd.R_lower ho0 (bZ (by repeat first|exact HB.out|apply bA|apply bN|apply bD))); have n1_ := Az.mk (bS (by repeat first|exact HB.out|apply bA|apply bN|apply bD) hb); clear HB; have HO249 := n0_; have HB := n1_; clear n0_ n1_; (try clear hb); (try clear hb2); (try clear hk); (try clear hi); (try clear ho0)))
  go_ret2
  exact ⟨_, by first | rfl | (simp [errW_none, errW_some] <;> rfl) | (simp [*, errW_none, errW_some] <;> rfl), by first | exact Kd.R_nil _ _ _ _ _ | exact Kd.N_nil _ _ _ _ _ | exact Kd.V_nil _ _ _ _ _ | exact Kd.Q_nil _ _ _ _ _ | exact Kd.S_nil _ _ _ _ _, by repeat (first | (with_reducible first|exact HB.out|apply bA|apply bN|apply bD) | exact HB.out)⟩
end Go.Proofs.YtndjbnkmhpbnpaaGreatDoor.Pr
namespace Go.Proofs.YtndjbnkmhpbnpaaGreatDoor.Pr
open Go.RowKit Go.Proofs.YtndjbnkmhpbnpaaGreatDoorW.PrintWords Go.Proofs.YtndjbnkmhpbnpaaGreatDoorW.PrintLast Go.Proofs.YtndjbnkmhpbnpaaGreatDoorW.PrintMore
theorem ofLives_told (a0 : ByteArray) (hs : a0.size ≤ 1048576) : impl_LivesOf.f a0 = some (if (toldOf a0).2.2 = true then (lvs (toldOf a0).1, true) else ([], false)) := by
 obtain ⟨m, l, g, hm, hl⟩ := told_good a0
 unfold impl_LivesOf.f
 rw [told_f a0 hs, Option.bind_some]
 split
 ·rw [hm, lives_told g (by omega), Option.bind_some]
 ·rfl
end Go.Proofs.YtndjbnkmhpbnpaaGreatDoor.Pr
namespace Go.Proofs.YtndjbnkmhpbnpaaGreatDoor.Pr
open Go.RowKit Go.Proofs.YtndjbnkmhpbnpaaGreatDoorW.PrintWords Go.Proofs.YtndjbnkmhpbnpaaGreatDoorW.PrintLast Go.Proofs.YtndjbnkmhpbnpaaGreatDoorW.PrintMore
set_option linter.unusedVariables false
set_option linter.unusedSimpArgs false
theorem mx_le {a b k : Int} : mx a b ≤ k ↔ a ≤ k ∧ b ≤ k := by unfold mx; split <;> omega
theorem mst_le (xs : List S31) (K : Int) : ∀ (d : Nat) (i a : Int), mst xs d i a ≤ K ↔ a ≤ K ∧ ∀ j : Nat, j < d → ((alv xs 0 (i + j)).length : Int) ≤ K
 | 0, i, a => by simp [mst]
 | d + 1, i, a => by
  rw [mst, mst_le xs K d (i + 1), mx_le]
  constructor
  ·rintro ⟨⟨h1, h2⟩, h3⟩
   refine ⟨h1, fun j hj => ?_⟩
   cases j with
   | zero => simpa using h2
   | succ j =>
    have := h3 j (by omega)
    rw [show i + ((j + 1 : Nat) : Int) = i + 1 + (j : Int) by omega]
    exact this
  ·rintro ⟨h1, h2⟩
   refine ⟨⟨h1, by have := h2 0 (by omega); simpa using this⟩, fun j hj => ?_⟩
   have := h2 (j + 1) (by omega)
   rw [show i + ((j + 1 : Nat) : Int) = i + 1 + (j : Int) by omega] at this
   exact this
end Go.Proofs.YtndjbnkmhpbnpaaGreatDoor.Pr
namespace Go.Proofs.YtndjbnkmhpbnpaaGreatDoor.Pr
open Go.RowKit Go.Proofs.YtndjbnkmhpbnpaaGreatDoorW.PrintWords Go.Proofs.YtndjbnkmhpbnpaaGreatDoorW.PrintLast Go.Proofs.YtndjbnkmhpbnpaaGreatDoorW.PrintMore
attribute [local go_sem] max2_int min2_int max_two min_two max_three min_three max_four min_four   -- for this text's walks alone
set_option linter.unusedVariables false
set_option linter.unusedSimpArgs false
def impl_AreNested.l0 : Nat → Bool → List (S31) → List (S55) → Int → Int → Option (Bool)
 | 0, _, _, _, _, _ => none
 | k + 1, x5, x6, x19, x20, x21 => if x21 < x20 then (if 0 ≤ x21 then (if x21 < (x19.length : Int) then ((impl_alive.f k x6 (wrap64 (x21 - 1))).bind fun t432 => (if ((rd_T55 x19 x21).f0).toList = ([45] : List UInt8) then (if 0 ≤ (wrap64 ((t432.length : Int) - 1)) then (if (wrap64 ((t432.length : Int) - 1)) < (t432.length : Int) then (if (rd t432 (wrap64 ((t432.length : Int) - 1))) = ((rd_T55 x19 x21).f1) then (impl_AreNested.l0 k x5 x6 x19 x20 (wrap64 (x21 + 1))) else (some false)) else (none)) else (none)) else (impl_AreNested.l0 k x5 x6 x19 x20 (wrap64 (x21 + 1))))) else (none)) else (none)) else (some x5)
def impl_AreNested.f (k : Nat) (a0 : ByteArray) : Option (Bool) := (impl_told.f a0).bind fun bt422 => ((impl_lives.f bt422.1 bt422.2.1).bind fun t427 => (impl_AreNested.l0 k bt422.2.2 t427 bt422.1 (bt422.1.length : Int) 0))
set_option maxHeartbeats 8000000 in
set_option maxRecDepth 100000 in
theorem impl_AreNested.calls (k : Nat) (a0 : ByteArray) (r : Bool) (w : World) (hLd : LaidW w) (h : impl_AreNested.f k a0 = some r) :
  Calls Tryz.prog 27 #[.string a0] w fun e w' => e = .returned (.bool r) ∧ Below w.heap.size w w' := by
 have hu55 := Tryz.underlying55
 have HB := Az.mk (Below.refl w.heap.size w)
 have HLd := Az.mk hLd
 clear hLd
 have H : ((impl_told.f a0).bind fun bt422 => ((impl_lives.f bt422.1 bt422.2.1).bind fun t427 => (impl_AreNested.l0 k bt422.2.2 t427 bt422.1 (bt422.1.length : Int) 0))) = some r := h
 clear h
 replace H := Option.bind_eq_some_iff.mp H
 obtain ⟨⟨t422, t423, t424⟩, A20, H⟩ := H
 replace H : ((impl_lives.f t422 t423).bind fun t427 => (impl_AreNested.l0 k t424 t427 t422 (t422.length : Int) 0)) = some r := H
 have A2 := Az.mk A20
 clear A20
 replace H := Option.bind_eq_some_iff.mp H
 obtain ⟨t427, A30, H⟩ := H
 replace H : (impl_AreNested.l0 k t424 t427 t422 (t422.length : Int) 0) = some r := H
 have A3 := Az.mk A30
 clear A30
 have H' := Az.mk H
 clear H
 go_enter Tryz.func27, Tryz.ntmps27
 go_wp2_with (first | (go_at_call 50; (with_reducible refine (impl_told.calls a0 t422 t423 t424 _ (HLd.out.below (by repeat first|exact HB.out|apply bA|apply bN|apply bD)) A2.out).mono ?_); rintro e w4 ⟨v425, rfl, ho0, hb⟩; have n0_ := Az.mk (Kd.R_lower ho0 (bZ (by repeat first|exact HB.out|apply bA|apply bN|apply bD))); have n1_ := Az.mk (bS (by repeat first|exact HB.out|apply bA|apply bN|apply bD) hb); clear HB; have HO426 := n0_; have HB := n1_; clear n0_ n1_; (try clear hb); (try clear hb2); (try clear hk); (try clear hi); (try clear ho0); obtain ⟨Ao5, co5, eo5⟩ := Kd.R_slice HO426.out; subst eo5) | (go_at_call 51; (with_reducible refine (impl_lives.calls _ _ t422 t423 t427 _ ?side1 ?side2 A3.out).mono ?_); (case side1 => repeat (first | exact (Kd.R_reads' HO426.out).2.2 | (with_reducible refine Kd.C_alloc ?_ _) | (with_reducible refine Kd.C_drewN ?_ _) | (with_reducible refine Kd.C_drew ?_))); (case side2 => exact (Kd.R_reads' HO426.out).2.1); rintro e w6 ⟨v428, rfl, ho0, hb⟩; have n0_ := Az.mk (Kd.Rb (by (with_reducible repeat first|apply Kd.Ra|apply Kd.Rn|apply Kd.Rw); exact HO426.out) hb); have n1_ := Az.mk (Kd.R_lower ho0 (bZ (by repeat first|exact HB.out|apply bA|apply bN|apply bD))); have n2_ := Az.mk (bS (by repeat first|exact HB.out|apply bA|apply bN|apply bD) hb); clear HO426; clear HB; have HO426 := n0_; have HO429 := n1_; have HB := n2_; clear n0_ n1_ n2_; (try clear hb); (try clear hb2); (try clear hk); (try clear hi); (try clear ho0)))
 repeat (go_quiet (first | (go_at_call 50; (with_reducible refine (impl_told.calls a0 t422 t423 t424 _ (HLd.out.below (by repeat first|exact HB.out|apply bA|apply bN|apply bD)) A2.out).mono ?_); rintro e w4 ⟨v425, rfl, ho0, hb⟩; have n0_ := Az.mk (Kd.R_lower ho0 (bZ (by repeat first|exact HB.out|apply bA|apply bN|apply bD))); have n1_ := Az.mk (bS (by repeat first|exact HB.out|apply bA|apply bN|apply bD) hb); clear HB; have HO426 := n0_; have HB := n1_; clear n0_ n1_; (try clear hb); (try clear hb2); (try clear hk); (try clear hi); (try clear ho0); obtain ⟨Ao5, co5, eo5⟩ := Kd.R_slice HO426.out; subst eo5) | (go_at_call 51; (with_reducible refine (impl_lives.calls _ _ t422 t423 t427 _ ?side1 ?side2 A3.out).mono ?_); (case side1 => repeat (first | exact (Kd.R_reads' HO426.out).2.2 | (with_reducible refine Kd.C_alloc ?_ _) | (with_reducible refine Kd.C_drewN ?_ _) | (with_reducible refine Kd.C_drew ?_))); (case side2 => exact (Kd.R_reads' HO426.out).2.1); rintro e w6 ⟨v428, rfl, ho0, hb⟩; have n0_ := Az.mk (Kd.Rb (by (with_reducible repeat first|apply Kd.Ra|apply Kd.Rn|apply Kd.Rw); exact HO426.out) hb); have n1_ := Az.mk (Kd.R_lower ho0 (bZ (by repeat first|exact HB.out|apply bA|apply bN|apply bD))); have n2_ := Az.mk (bS (by repeat first|exact HB.out|apply bA|apply bN|apply bD) hb); clear HO426; clear HB; have HO426 := n0_; have HO429 := n1_; have HB := n2_; clear n0_ n1_ n2_; (try clear hb); (try clear hb2); (try clear hk); (try clear hi); (try clear ho0))); try go_wp2_with (first | (go_at_call 50; (with_reducible refine (impl_told.calls a0 t422 t423 t424 _ (HLd.out.below (by repeat first|exact HB.out|apply bA|apply bN|apply bD)) A2.out).mono ?_); rintro e w4 ⟨v425, rfl, ho0, hb⟩; have n0_ := Az.mk (Kd.R_lower ho0 (bZ (by repeat first|exact HB.out|apply bA|apply bN|apply bD))); have n1_ := Az.mk (bS (by repeat first|exact HB.out|apply bA|apply bN|apply bD) hb); clear HB; have HO426 := n0_; have HB := n1_; clear n0_ n1_; (try clear hb); (try clear hb2); (try clear hk); (try clear hi); (try clear ho0); obtain ⟨Ao5, co5, eo5⟩ := Kd.R_slice HO426.out; subst eo5) | (go_at_call 51; (with_reducible refine (impl_lives.calls _ _ t422 t423 t427 _ ?side1 ?side2 A3.out).mono ?_); (case side1 => repeat (first | exact (Kd.R_reads' HO426.out).2.2 | (with_reducible refine Kd.C_alloc ?_ _) | (with_reducible refine Kd.C_drewN ?_ _) | (with_reducible refine Kd.C_drew ?_))); (case side2 => exact (Kd.R_reads' HO426.out).2.1); rintro e w6 ⟨v428, rfl, ho0, hb⟩; have n0_ := Az.mk (Kd.Rb (by (with_reducible repeat first|apply Kd.Ra|apply Kd.Rn|apply Kd.Rw); exact HO426.out) hb); have n1_ := Az.mk (Kd.R_lower ho0 (bZ (by repeat first|exact HB.out|apply bA|apply bN|apply bD))); have n2_ := Az.mk (bS (by repeat first|exact HB.out|apply bA|apply bN|apply bD) hb); clear HO426; clear HB; have HO426 := n0_; have HO429 := n1_; have HB := n2_; clear n0_ n1_ n2_; (try clear hb); (try clear hb2); (try clear hk); (try clear hi); (try clear ho0))))
 go_loopg [21] k (fun kq v21 w' => ∃ (x21_1 : Int), v21 = .int .i64 x21_1 ∧ Az (impl_AreNested.l0 kq t424 t427 t422 (t422.length : Int) x21_1 = some r) ∧ Az (kq ≤ k) ∧ Az (Kd.R k31 31 w' w.heap.size (fun _ => True) v428 t427) ∧ Az (Kd.R k55 55 w' w.heap.size (fun _ => True) (.slice Ao5 t422.length co5) t422) ∧ Az (Below w.heap.size w w'))
 case atStart => exact ⟨(0), (by first | rfl | (simp; done) | (simp [*]; done)), H', ⟨Nat.le_refl _⟩, ⟨by (with_reducible repeat first|apply Kd.Ra|apply Kd.Rn|apply Kd.Rw); exact HO429.out⟩, ⟨by (with_reducible repeat first|apply Kd.Ra|apply Kd.Rn|apply Kd.Rw); exact HO426.out⟩, ⟨by repeat (first | (with_reducible first|exact HB.out|apply bA|apply bN|apply bD) | exact HB.out)⟩⟩
 case round =>
  clear H'
  try clear c2
  try clear p2
  obtain ⟨x21_1, rfl, HA, HK1, HO_6, HO_19, HB⟩ := hrel
  cases gk with
  | zero => exact absurd HA.out (by simp [impl_AreNested.l0])
  | succ k1 =>
   have H := HA.out
   clear HA
   simp only [impl_AreNested.l0] at H
   by_cases c7 : x21_1 < (t422.length : Int)
   ·rw [if_pos c7] at H
    have c7b0 : decide (x21_1 < (t422.length : Int)) = true := decide_eq_true c7
    clear c7
    by_cases c8 : 0 ≤ x21_1
    ·rw [if_pos c8] at H
     have c8b0 : decide (0 ≤ x21_1) = true := decide_eq_true c8
     clear c8
     by_cases c9 : x21_1 < (t422.length : Int)
     ·rw [if_pos c9] at H
      have c9b0 : decide (x21_1 < (t422.length : Int)) = true := decide_eq_true c9
      clear c9
      replace H := Option.bind_eq_some_iff.mp H
      obtain ⟨t432, A100, H⟩ := H
      replace H : (if ((rd_T55 t422 x21_1).f0).toList = ([45] : List UInt8) then (if 0 ≤ (wrap64 ((t432.length : Int) - 1)) then (if (wrap64 ((t432.length : Int) - 1)) < (t432.length : Int) then (if (rd t432 (wrap64 ((t432.length : Int) - 1))) = ((rd_T55 t422 x21_1).f1) then (impl_AreNested.l0 k1 t424 t427 t422 (t422.length : Int) (wrap64 (x21_1 + 1))) else (some false)) else (none)) else (none)) else (impl_AreNested.l0 k1 t424 t427 t422 (t422.length : Int) (wrap64 (x21_1 + 1)))) = some r := H
      have A10 := Az.mk A100
      clear A100
      by_cases c11 : ((rd_T55 t422 x21_1).f0).toList = ([45] : List UInt8)
      ·rw [if_pos c11] at H
       have c11b0 : (((rd_T55 t422 x21_1).f0).toList == ([45] : List UInt8)) = true := beq_iff_eq.mpr c11
       have c11b1 : (((rd_T55 t422 x21_1).f0).toList != ([45] : List UInt8)) = false := bne_eq_false_iff_eq.mpr c11
       clear c11
       obtain ⟨ji12, hji12⟩ : ∃ j_ : Int, (wrap64 ((t432.length : Int) - 1)) = j_ := ⟨_, rfl⟩
       replace H : (if 0 ≤ (ji12) then (if (ji12) < (t432.length : Int) then (if (rd t432 (ji12)) = ((rd_T55 t422 x21_1).f1) then (impl_AreNested.l0 k1 t424 t427 t422 (t422.length : Int) (wrap64 (x21_1 + 1))) else (some false)) else (none)) else (none)) = some r := by first | (rw [hji12] at H; exact H) | (simp only [hji12] at H ⊢; exact H)
       (try rw [hji12] at A10)
       have hji12w : (IntKind.i64.wrap ((t432.length : Int) - 1)) = ji12 := (i64_w _).trans hji12
       by_cases c13 : 0 ≤ (ji12)
       ·rw [if_pos c13] at H
        have c13b0 : decide (0 ≤ (ji12)) = true := decide_eq_true c13
        clear c13
        by_cases c14 : (ji12) < (t432.length : Int)
        ·rw [if_pos c14] at H
         have c14b0 : decide ((ji12) < (t432.length : Int)) = true := decide_eq_true c14
         clear c14
         by_cases c15 : (rd t432 (ji12)) = ((rd_T55 t422 x21_1).f1)
         ·rw [if_pos c15] at H
          have c15b0 : ((rd t432 (ji12)) == ((rd_T55 t422 x21_1).f1)) = true := beq_iff_eq.mpr c15
          have c15b1 : ((rd t432 (ji12)) != ((rd_T55 t422 x21_1).f1)) = false := bne_eq_false_iff_eq.mpr c15
          clear c15
          have H' := Az.mk H
          clear H
          have p430 : 0 ≤ (x21_1 : Int) := of_decide_eq_true (by first|(with_reducible assumption)|assumption)
          have q430 : x21_1 < (t422.length : Int) := of_decide_eq_true (by first|(with_reducible assumption)|assumption)
          obtain ⟨ad430, e430, hx430_0, hx430_1⟩ := at_T55 (Kd.R_reads' HO_19.out).2.2 x21_1 p430 q430
          cases e430
          replace p430 := eq_true p430
          replace q430 := eq_true q430
          go_wp2_with (first | ((with_reducible refine gate_dst (N := 8) rfl ?_); (try (refine gate_guard (by rfl) ?_; dsimp only)); refine box_event ?hg (N := 8) ?hd (cs := #[.string (⟨#[]⟩ : ByteArray), .int .i64 0]) (t := 55) ?hr ?_; (case hd => rfl); (case hg => rfl); (case hr => first | (go_simp; done) | (go_simp; rfl)); intro gb431 hg w16 hbox hb; have n0_ := Az.mk (Kd.Rb (by (with_reducible repeat first|apply Kd.Ra|apply Kd.Rn|apply Kd.Rw); exact HO_6.out) hb); have n1_ := Az.mk (Kd.Rb (Kd.R_elderB (by (with_reducible repeat first|apply Kd.Ra|apply Kd.Rn|apply Kd.Rw); exact HO_19.out) gb431 (Nat.le_of_eq hg.symm)) hb); have n2_ := Az.mk (bS (by repeat first|exact HB.out|apply bA|apply bN|apply bD) hb); have n3_ := Az.mk (hbox); have n4_ := Az.mk ((by rw [hg]; exact (bZ (by repeat first|exact HB.out|apply bA|apply bN|apply bD)) : w.heap.size ≤ gb431)); have n5_ := Az.mk ((by rw [hg]; exact (bZ (by repeat first|exact HB.out|apply bA|apply bN|apply bD)) : w.heap.size ≤ gb431)); clear HO_6; clear HO_19; clear HB; have HO_6 := n0_; have HO_19 := n1_; have HB := n2_; have BK431 := n3_; have GW431 := n4_; have GE431 := n5_; clear n0_ n1_ n2_ n3_ n4_ n5_; clear hb hbox hg; have hcz17_0 : w16.cell? ⟨gb431, 0, none⟩ = some (.string (⟨#[]⟩ : ByteArray)) := (blk_cell BK431.out 0).trans rfl; have hcz17_1 : w16.cell? ⟨gb431, 1, none⟩ = some (.int .i64 0) := (blk_cell BK431.out 1).trans rfl; have hfz17_0 := blk_frozen BK431.out 0; have hfz17_1 := blk_frozen BK431.out 1; obtain ⟨Ao18, co18, eo18⟩ := Kd.R_slice HO_6.out; subst eo18) | (go_at_call 57; (with_reducible refine (impl_alive.calls k1 _ _ t427 (wrap64 (x21_1 - 1)) t432 _ ?side1 ?side2 A10.out).mono ?_); (case side1 => refine (Kd.R_reads' (e := 31) (base := w.heap.size) (ok := fun k_ => True) (n := t427.length) (c := co18) ?_).2.2; exact (by (with_reducible repeat first|apply Kd.Ra|apply Kd.Rn|apply Kd.Rw); exact (Kd.R_mono (Kd.R_far (p := ⟨gb431, 1, none⟩) (Kd.R_far (p := ⟨gb431, 0, none⟩) (Kd.R_types HO_6.out BK431.out (by decide)) (fun _ hk => hk.2) (.string ((rd_T55 t422 x21_1).f0))) (fun _ hk => hk.2) (.int .i64 ((rd_T55 t422 x21_1).f1))) (fun _ h_ => h_.1)))); (case side2 => exact (Kd.R_reads' HO_6.out).2.1); rintro e w19 ⟨v433, rfl, ho0, hb⟩; have n0_ := Az.mk (Kd.Rb (by (with_reducible repeat first|apply Kd.Ra|apply Kd.Rn|apply Kd.Rw); exact (Kd.R_mono (Kd.R_far (p := ⟨gb431, 1, none⟩) (Kd.R_far (p := ⟨gb431, 0, none⟩) (Kd.R_types HO_6.out BK431.out (by decide)) (fun _ hk => hk.2) (.string ((rd_T55 t422 x21_1).f0))) (fun _ hk => hk.2) (.int .i64 ((rd_T55 t422 x21_1).f1))) (fun _ h_ => h_.1))) hb); have n1_ := Az.mk (Kd.Rb (by (with_reducible repeat first|apply Kd.Ra|apply Kd.Rn|apply Kd.Rw); exact (Kd.R_mono (Kd.R_far (p := ⟨gb431, 1, none⟩) (Kd.R_far (p := ⟨gb431, 0, none⟩) (Kd.R_mono HO_19.out (fun k_ hk => (⟨hk, hk.2⟩ : _ ∧ k_ ≠ gb431))) (fun _ hk => hk.2) (.string ((rd_T55 t422 x21_1).f0))) (fun _ hk => hk.2) (.int .i64 ((rd_T55 t422 x21_1).f1))) (fun _ h_ => h_.1))) hb); have n2_ := Az.mk (Kd.R_lower ho0 (bZ (by repeat (first | (with_reducible first|exact HB.out|apply bA|apply bN|apply bD | refine below_set ?_ GE431.out) | exact HB.out)))); have n3_ := Az.mk (blk_below (g := gb431) (o := .cells #[.string ((rd_T55 t422 x21_1).f0), .int .i64 ((rd_T55 t422 x21_1).f1)] 55 (0, 0)) (by (with_reducible repeat first|refine blN ?_ _|refine bl1 ?_|refine blA ?_ _); refine blk_put (cs := #[.string ((rd_T55 t422 x21_1).f0), .int .i64 0]) ?_ 1 _ rfl; (with_reducible repeat first|refine blN ?_ _|refine bl1 ?_|refine blA ?_ _); refine blk_put (cs := #[.string (⟨#[]⟩ : ByteArray), .int .i64 0]) ?_ 0 _ rfl; (with_reducible repeat first|refine blN ?_ _|refine bl1 ?_|refine blA ?_ _); exact BK431.out) hb); have n4_ := Az.mk (bS (by repeat (first | (with_reducible first|exact HB.out|apply bA|apply bN|apply bD | refine below_set ?_ GE431.out) | exact HB.out)) hb); clear HO_6; clear HO_19; clear BK431; clear HB; have HO_6 := n0_; have HO_19 := n1_; have HO434 := n2_; have BK431 := n3_; have HB := n4_; clear n0_ n1_ n2_ n3_ n4_; (try clear hb); (try clear hb2); (try clear hk); (try clear hi); (try clear ho0); have hcz20_0 : w19.cell? ⟨gb431, 0, none⟩ = some (.string ((rd_T55 t422 x21_1).f0)) := (blk_cell BK431.out 0).trans rfl; have hcz20_1 : w19.cell? ⟨gb431, 1, none⟩ = some (.int .i64 ((rd_T55 t422 x21_1).f1)) := (blk_cell BK431.out 1).trans rfl; have hfz20_0 := blk_frozen BK431.out 0; have hfz20_1 := blk_frozen BK431.out 1; obtain ⟨Ao21, co21, eo21⟩ := Kd.R_slice HO434.out; subst eo21; have p435 : 0 ≤ ((ji12) : Int) := of_decide_eq_true (by first|(with_reducible assumption)|assumption); have q435 : (ji12) < (t432.length : Int) := of_decide_eq_true (by first|(with_reducible assumption)|assumption); obtain ⟨ad435, e435, hx435_0⟩ := Kd.at_int (Kd.R_reads' HO434.out).2.2 (ji12) p435 q435; cases e435; replace p435 := eq_true p435; replace q435 := eq_true q435))
          repeat (go_quiet (first | ((with_reducible refine gate_dst (N := 8) rfl ?_); (try (refine gate_guard (by rfl) ?_; dsimp only)); refine box_event ?hg (N := 8) ?hd (cs := #[.string (⟨#[]⟩ : ByteArray), .int .i64 0]) (t := 55) ?hr ?_; (case hd => rfl); (case hg => rfl); (case hr => first | (go_simp; done) | (go_simp; rfl)); intro gb431 hg w16 hbox hb; have n0_ := Az.mk (Kd.Rb (by (with_reducible repeat first|apply Kd.Ra|apply Kd.Rn|apply Kd.Rw); exact HO_6.out) hb); have n1_ := Az.mk (Kd.Rb (Kd.R_elderB (by (with_reducible repeat first|apply Kd.Ra|apply Kd.Rn|apply Kd.Rw); exact HO_19.out) gb431 (Nat.le_of_eq hg.symm)) hb); have n2_ := Az.mk (bS (by repeat first|exact HB.out|apply bA|apply bN|apply bD) hb); have n3_ := Az.mk (hbox); have n4_ := Az.mk ((by rw [hg]; exact (bZ (by repeat first|exact HB.out|apply bA|apply bN|apply bD)) : w.heap.size ≤ gb431)); have n5_ := Az.mk ((by rw [hg]; exact (bZ (by repeat first|exact HB.out|apply bA|apply bN|apply bD)) : w.heap.size ≤ gb431)); clear HO_6; clear HO_19; clear HB; have HO_6 := n0_; have HO_19 := n1_; have HB := n2_; have BK431 := n3_; have GW431 := n4_; have GE431 := n5_; clear n0_ n1_ n2_ n3_ n4_ n5_; clear hb hbox hg; have hcz17_0 : w16.cell? ⟨gb431, 0, none⟩ = some (.string (⟨#[]⟩ : ByteArray)) := (blk_cell BK431.out 0).trans rfl; have hcz17_1 : w16.cell? ⟨gb431, 1, none⟩ = some (.int .i64 0) := (blk_cell BK431.out 1).trans rfl; have hfz17_0 := blk_frozen BK431.out 0; have hfz17_1 := blk_frozen BK431.out 1; obtain ⟨Ao18, co18, eo18⟩ := Kd.R_slice HO_6.out; subst eo18) | (go_at_call 57; (with_reducible refine (impl_alive.calls k1 _ _ t427 (wrap64 (x21_1 - 1)) t432 _ ?side1 ?side2 A10.out).mono ?_); (case side1 => refine (Kd.R_reads' (e := 31) (base := w.heap.size) (ok := fun k_ => True) (n := t427.length) (c := co18) ?_).2.2; exact (by (with_reducible repeat first|apply Kd.Ra|apply Kd.Rn|apply Kd.Rw); exact (Kd.R_mono (Kd.R_far (p := ⟨gb431, 1, none⟩) (Kd.R_far (p := ⟨gb431, 0, none⟩) (Kd.R_types HO_6.out BK431.out (by decide)) (fun _ hk => hk.2) (.string ((rd_T55 t422 x21_1).f0))) (fun _ hk => hk.2) (.int .i64 ((rd_T55 t422 x21_1).f1))) (fun _ h_ => h_.1)))); (case side2 => exact (Kd.R_reads' HO_6.out).2.1); rintro e w19 ⟨v433, rfl, ho0, hb⟩; have n0_ := Az.mk (Kd.Rb (by (with_reducible repeat first|apply Kd.Ra|apply Kd.Rn|apply Kd.Rw); exact (Kd.R_mono (Kd.R_far (p := ⟨gb431, 1, none⟩) (Kd.R_far (p := ⟨gb431, 0, none⟩) (Kd.R_types HO_6.out BK431.out (by decide)) (fun _ hk => hk.2) (.string ((rd_T55 t422 x21_1).f0))) (fun _ hk => hk.2) (.int .i64 ((rd_T55 t422 x21_1).f1))) (fun _ h_ => h_.1))) hb); have n1_ := Az.mk (Kd.Rb (by (with_reducible repeat first|apply Kd.Ra|apply Kd.Rn|apply Kd.Rw); exact (Kd.R_mono (Kd.R_far (p := ⟨gb431, 1, none⟩) (Kd.R_far (p := ⟨gb431, 0, none⟩) (Kd.R_mono HO_19.out (fun k_ hk => (⟨hk, hk.2⟩ : _ ∧ k_ ≠ gb431))) (fun _ hk => hk.2) (.string ((rd_T55 t422 x21_1).f0))) (fun _ hk => hk.2) (.int .i64 ((rd_T55 t422 x21_1).f1))) (fun _ h_ => h_.1))) hb); have n2_ := Az.mk (Kd.R_lower ho0 (bZ (by repeat (first | (with_reducible first|exact HB.out|apply bA|apply bN|apply bD | refine below_set ?_ GE431.out) | exact HB.out)))); have n3_ := Az.mk (blk_below (g := gb431) (o := .cells #[.string ((rd_T55 t422 x21_1).f0), .int .i64 ((rd_T55 t422 x21_1).f1)] 55 (0, 0)) (by (with_reducible repeat first|refine blN ?_ _|refine bl1 ?_|refine blA ?_ _); refine blk_put (cs := #[.string ((rd_T55 t422 x21_1).f0), .int .i64 0]) ?_ 1 _ rfl; (with_reducible repeat first|refine blN ?_ _|refine bl1 ?_|refine blA ?_ _); refine blk_put (cs := #[.string (⟨#[]⟩ : ByteArray), .int .i64 0]) ?_ 0 _ rfl; (with_reducible repeat first|refine blN ?_ _|refine bl1 ?_|refine blA ?_ _); exact BK431.out) hb); have n4_ := Az.mk (bS (by repeat (first | (with_reducible first|exact HB.out|apply bA|apply bN|apply bD | refine below_set ?_ GE431.out) | exact HB.out)) hb); clear HO_6; clear HO_19; clear BK431; clear HB; have HO_6 := n0_; have HO_19 := n1_; have HO434 := n2_; have BK431 := n3_; have HB := n4_; clear n0_ n1_ n2_ n3_ n4_; (try clear hb); (try clear hb2); (try clear hk); (try clear hi); (try clear ho0); have hcz20_0 : w19.cell? ⟨gb431, 0, none⟩ = some (.string ((rd_T55 t422 x21_1).f0)) := (blk_cell BK431.out 0).trans rfl; have hcz20_1 : w19.cell? ⟨gb431, 1, none⟩ = some (.int .i64 ((rd_T55 t422 x21_1).f1)) := (blk_cell BK431.out 1).trans rfl; have hfz20_0 := blk_frozen BK431.out 0; have hfz20_1 := blk_frozen BK431.out 1; obtain ⟨Ao21, co21, eo21⟩ := Kd.R_slice HO434.out; subst eo21; have p435 : 0 ≤ ((ji12) : Int) := of_decide_eq_true (by first|(with_reducible assumption)|assumption); have q435 : (ji12) < (t432.length : Int) := of_decide_eq_true (by first|(with_reducible assumption)|assumption); obtain ⟨ad435, e435, hx435_0⟩ := Kd.at_int (Kd.R_reads' HO434.out).2.2 (ji12) p435 q435; cases e435; replace p435 := eq_true p435; replace q435 := eq_true q435)); try go_wp2_with (first | ((with_reducible refine gate_dst (N := 8) rfl ?_); (try (refine gate_guard (by rfl) ?_; dsimp only)); refine box_event ?hg (N := 8) ?hd (cs := #[.string (⟨#[]⟩ : ByteArray), .int .i64 0]) (t := 55) ?hr ?_; (case hd => rfl); (case hg => rfl); (case hr => first | (go_simp; done) | (go_simp; rfl)); intro gb431 hg w16 hbox hb; have n0_ := Az.mk (Kd.Rb (by (with_reducible repeat first|apply Kd.Ra|apply Kd.Rn|apply Kd.Rw); exact HO_6.out) hb); have n1_ := Az.mk (Kd.Rb (Kd.R_elderB (by (with_reducible repeat first|apply Kd.Ra|apply Kd.Rn|apply Kd.Rw); exact HO_19.out) gb431 (Nat.le_of_eq hg.symm)) hb); have n2_ := Az.mk (bS (by repeat first|exact HB.out|apply bA|apply bN|apply bD) hb); have n3_ := Az.mk (hbox); have n4_ := Az.mk ((by rw [hg]; exact (bZ (by repeat first|exact HB.out|apply bA|apply bN|apply bD)) : w.heap.size ≤ gb431)); have n5_ := Az.mk ((by rw [hg]; exact (bZ (by repeat first|exact HB.out|apply bA|apply bN|apply bD)) : w.heap.size ≤ gb431)); clear HO_6; clear HO_19; clear HB; have HO_6 := n0_; have HO_19 := n1_; have HB := n2_; have BK431 := n3_; have GW431 := n4_; have GE431 := n5_; clear n0_ n1_ n2_ n3_ n4_ n5_; clear hb hbox hg; have hcz17_0 : w16.cell? ⟨gb431, 0, none⟩ = some (.string (⟨#[]⟩ : ByteArray)) := (blk_cell BK431.out 0).trans rfl; have hcz17_1 : w16.cell? ⟨gb431, 1, none⟩ = some (.int .i64 0) := (blk_cell BK431.out 1).trans rfl; have hfz17_0 := blk_frozen BK431.out 0; have hfz17_1 := blk_frozen BK431.out 1; obtain ⟨Ao18, co18, eo18⟩ := Kd.R_slice HO_6.out; subst eo18) | (go_at_call 57; (with_reducible refine (impl_alive.calls k1 _ _ t427 (wrap64 (x21_1 - 1)) t432 _ ?side1 ?side2 A10.out).mono ?_); (case side1 => refine (Kd.R_reads' (e := 31) (base := w.heap.size) (ok := fun k_ => True) (n := t427.length) (c := co18) ?_).2.2; exact (by (with_reducible repeat first|apply Kd.Ra|apply Kd.Rn|apply Kd.Rw); exact (Kd.R_mono (Kd.R_far (p := ⟨gb431, 1, none⟩) (Kd.R_far (p := ⟨gb431, 0, none⟩) (Kd.R_types HO_6.out BK431.out (by decide)) (fun _ hk => hk.2) (.string ((rd_T55 t422 x21_1).f0))) (fun _ hk => hk.2) (.int .i64 ((rd_T55 t422 x21_1).f1))) (fun _ h_ => h_.1)))); (case side2 => exact (Kd.R_reads' HO_6.out).2.1); rintro e w19 ⟨v433, rfl, ho0, hb⟩; have n0_ := Az.mk (Kd.Rb (by (with_reducible repeat first|apply Kd.Ra|apply Kd.Rn|apply Kd.Rw); exact (Kd.R_mono (Kd.R_far (p := ⟨gb431, 1, none⟩) (Kd.R_far (p := ⟨gb431, 0, none⟩) (Kd.R_types HO_6.out BK431.out (by decide)) (fun _ hk => hk.2) (.string ((rd_T55 t422 x21_1).f0))) (fun _ hk => hk.2) (.int .i64 ((rd_T55 t422 x21_1).f1))) (fun _ h_ => h_.1))) hb); have n1_ := Az.mk (Kd.Rb (by (with_reducible repeat first|apply Kd.Ra|apply Kd.Rn|apply Kd.Rw); exact (Kd.R_mono (Kd.R_far (p := ⟨gb431, 1, none⟩) (Kd.R_far (p := ⟨gb431, 0, none⟩) (Kd.R_mono HO_19.out (fun k_ hk => (⟨hk, hk.2⟩ : _ ∧ k_ ≠ gb431))) (fun _ hk => hk.2) (.string ((rd_T55 t422 x21_1).f0))) (fun _ hk => hk.2) (.int .i64 ((rd_T55 t422 x21_1).f1))) (fun _ h_ => h_.1))) hb); have n2_ := Az.mk (Kd.R_lower ho0 (bZ (by repeat (first | (with_reducible first|exact HB.out|apply bA|apply bN|apply bD | refine below_set ?_ GE431.out) | exact HB.out)))); have n3_ := Az.mk (blk_below (g := gb431) (o := .cells #[.string ((rd_T55 t422 x21_1).f0), .int .i64 ((rd_T55 t422 x21_1).f1)] 55 (0, 0)) (by (with_reducible repeat first|refine blN ?_ _|refine bl1 ?_|refine blA ?_ _); refine blk_put (cs := #[.string ((rd_T55 t422 x21_1).f0), .int .i64 0]) ?_ 1 _ rfl; (with_reducible repeat first|refine blN ?_ _|refine bl1 ?_|refine blA ?_ _); refine blk_put (cs := #[.string (⟨#[]⟩ : ByteArray), .int .i64 0]) ?_ 0 _ rfl; (with_reducible repeat first|refine blN ?_ _|refine bl1 ?_|refine blA ?_ _); exact BK431.out) hb); have n4_ := Az.mk (bS (by repeat (first | (with_reducible first|exact HB.out|apply bA|apply bN|apply bD | refine below_set ?_ GE431.out) | exact HB.out)) hb); clear HO_6; clear HO_19; clear BK431; clear HB; have HO_6 := n0_; have HO_19 := n1_; have HO434 := n2_; have BK431 := n3_; have HB := n4_; clear n0_ n1_ n2_ n3_ n4_; (try clear hb); (try clear hb2); (try clear hk); (try clear hi); (try clear ho0); have hcz20_0 : w19.cell? ⟨gb431, 0, none⟩ = some (.string ((rd_T55 t422 x21_1).f0)) := (blk_cell BK431.out 0).trans rfl; have hcz20_1 : w19.cell? ⟨gb431, 1, none⟩ = some (.int .i64 ((rd_T55 t422 x21_1).f1)) := (blk_cell BK431.out 1).trans rfl; have hfz20_0 := blk_frozen BK431.out 0; have hfz20_1 := blk_frozen BK431.out 1; obtain ⟨Ao21, co21, eo21⟩ := Kd.R_slice HO434.out; subst eo21; have p435 : 0 ≤ ((ji12) : Int) := of_decide_eq_true (by first|(with_reducible assumption)|assumption); have q435 : (ji12) < (t432.length : Int) := of_decide_eq_true (by first|(with_reducible assumption)|assumption); obtain ⟨ad435, e435, hx435_0⟩ := Kd.at_int (Kd.R_reads' HO434.out).2.2 (ji12) p435 q435; cases e435; replace p435 := eq_true p435; replace q435 := eq_true q435)))
          go_roundg k1
          case measure => have := HK1.out; omega
          case rel => exact ⟨(wrap64 (x21_1 + 1)), (by first | rfl | (simp; done) | (simp [*]; done)), H', ⟨by have := HK1.out; omega⟩, ⟨by (with_reducible repeat first|apply Kd.Ra|apply Kd.Rn|apply Kd.Rw); exact HO_6.out⟩, ⟨by (with_reducible repeat first|apply Kd.Ra|apply Kd.Rn|apply Kd.Rw); exact Kd.R_mono HO_19.out (fun _ hk => trivial)⟩, ⟨by repeat (first | (with_reducible first|exact HB.out|apply bA|apply bN|apply bD | refine below_set ?_ GE431.out) | exact HB.out)⟩⟩
         ·rw [if_neg c15] at H
          have c15b0 : ((rd t432 (ji12)) == ((rd_T55 t422 x21_1).f1)) = false := beq_eq_false_iff_ne.mpr c15
          have c15b1 : ((rd t432 (ji12)) != ((rd_T55 t422 x21_1).f1)) = true := bne_iff_ne.mpr c15
          obtain rfl := Option.some.inj H
          have p430 : 0 ≤ (x21_1 : Int) := of_decide_eq_true (by first|(with_reducible assumption)|assumption)
          have q430 : x21_1 < (t422.length : Int) := of_decide_eq_true (by first|(with_reducible assumption)|assumption)
          obtain ⟨ad430, e430, hx430_0, hx430_1⟩ := at_T55 (Kd.R_reads' HO_19.out).2.2 x21_1 p430 q430
          cases e430
          replace p430 := eq_true p430
          replace q430 := eq_true q430
          go_wp2_with (first | ((with_reducible refine gate_dst (N := 8) rfl ?_); (try (refine gate_guard (by rfl) ?_; dsimp only)); refine box_event ?hg (N := 8) ?hd (cs := #[.string (⟨#[]⟩ : ByteArray), .int .i64 0]) (t := 55) ?hr ?_; (case hd => rfl); (case hg => rfl); (case hr => first | (go_simp; done) | (go_simp; rfl)); intro gb431 hg w22 hbox hb; have n0_ := Az.mk (Kd.Rb (by (with_reducible repeat first|apply Kd.Ra|apply Kd.Rn|apply Kd.Rw); exact HO_6.out) hb); have n1_ := Az.mk (Kd.Rb (Kd.R_elderB (by (with_reducible repeat first|apply Kd.Ra|apply Kd.Rn|apply Kd.Rw); exact HO_19.out) gb431 (Nat.le_of_eq hg.symm)) hb); have n2_ := Az.mk (bS (by repeat first|exact HB.out|apply bA|apply bN|apply bD) hb); have n3_ := Az.mk (hbox); have n4_ := Az.mk ((by rw [hg]; exact (bZ (by repeat first|exact HB.out|apply bA|apply bN|apply bD)) : w.heap.size ≤ gb431)); have n5_ := Az.mk ((by rw [hg]; exact (bZ (by repeat first|exact HB.out|apply bA|apply bN|apply bD)) : w.heap.size ≤ gb431)); clear HO_6; clear HO_19; clear HB; have HO_6 := n0_; have HO_19 := n1_; have HB := n2_; have BK431 := n3_; have GW431 := n4_; have GE431 := n5_; clear n0_ n1_ n2_ n3_ n4_ n5_; clear hb hbox hg; have hcz23_0 : w22.cell? ⟨gb431, 0, none⟩ = some (.string (⟨#[]⟩ : ByteArray)) := (blk_cell BK431.out 0).trans rfl; have hcz23_1 : w22.cell? ⟨gb431, 1, none⟩ = some (.int .i64 0) := (blk_cell BK431.out 1).trans rfl; have hfz23_0 := blk_frozen BK431.out 0; have hfz23_1 := blk_frozen BK431.out 1; obtain ⟨Ao24, co24, eo24⟩ := Kd.R_slice HO_6.out; subst eo24) | (go_at_call 57; (with_reducible refine (impl_alive.calls k1 _ _ t427 (wrap64 (x21_1 - 1)) t432 _ ?side1 ?side2 A10.out).mono ?_); (case side1 => refine (Kd.R_reads' (e := 31) (base := w.heap.size) (ok := fun k_ => True) (n := t427.length) (c := co24) ?_).2.2; exact (by (with_reducible repeat first|apply Kd.Ra|apply Kd.Rn|apply Kd.Rw); exact (Kd.R_mono (Kd.R_far (p := ⟨gb431, 1, none⟩) (Kd.R_far (p := ⟨gb431, 0, none⟩) (Kd.R_types HO_6.out BK431.out (by decide)) (fun _ hk => hk.2) (.string ((rd_T55 t422 x21_1).f0))) (fun _ hk => hk.2) (.int .i64 ((rd_T55 t422 x21_1).f1))) (fun _ h_ => h_.1)))); (case side2 => exact (Kd.R_reads' HO_6.out).2.1); rintro e w25 ⟨v433, rfl, ho0, hb⟩; have n0_ := Az.mk (Kd.Rb (by (with_reducible repeat first|apply Kd.Ra|apply Kd.Rn|apply Kd.Rw); exact (Kd.R_mono (Kd.R_far (p := ⟨gb431, 1, none⟩) (Kd.R_far (p := ⟨gb431, 0, none⟩) (Kd.R_types HO_6.out BK431.out (by decide)) (fun _ hk => hk.2) (.string ((rd_T55 t422 x21_1).f0))) (fun _ hk => hk.2) (.int .i64 ((rd_T55 t422 x21_1).f1))) (fun _ h_ => h_.1))) hb); have n1_ := Az.mk (Kd.Rb (by (with_reducible repeat first|apply Kd.Ra|apply Kd.Rn|apply Kd.Rw); exact (Kd.R_mono (Kd.R_far (p := ⟨gb431, 1, none⟩) (Kd.R_far (p := ⟨gb431, 0, none⟩) (Kd.R_mono HO_19.out (fun k_ hk => (⟨hk, hk.2⟩ : _ ∧ k_ ≠ gb431))) (fun _ hk => hk.2) (.string ((rd_T55 t422 x21_1).f0))) (fun _ hk => hk.2) (.int .i64 ((rd_T55 t422 x21_1).f1))) (fun _ h_ => h_.1))) hb); have n2_ := Az.mk (Kd.R_lower ho0 (bZ (by repeat (first | (with_reducible first|exact HB.out|apply bA|apply bN|apply bD | refine below_set ?_ GE431.out) | exact HB.out)))); have n3_ := Az.mk (blk_below (g := gb431) (o := .cells #[.string ((rd_T55 t422 x21_1).f0), .int .i64 ((rd_T55 t422 x21_1).f1)] 55 (0, 0)) (by (with_reducible repeat first|refine blN ?_ _|refine bl1 ?_|refine blA ?_ _); refine blk_put (cs := #[.string ((rd_T55 t422 x21_1).f0), .int .i64 0]) ?_ 1 _ rfl; (with_reducible repeat first|refine blN ?_ _|refine bl1 ?_|refine blA ?_ _); refine blk_put (cs := #[.string (⟨#[]⟩ : ByteArray), .int .i64 0]) ?_ 0 _ rfl; (with_reducible repeat first|refine blN ?_ _|refine bl1 ?_|refine blA ?_ _); exact BK431.out) hb); have n4_ := Az.mk (bS (by repeat (first | (with_reducible first|exact HB.out|apply bA|apply bN|apply bD | refine below_set ?_ GE431.out) | exact HB.out)) hb); clear HO_6; clear HO_19; clear BK431; clear HB; have HO_6 := n0_; have HO_19 := n1_; have HO434 := n2_; have BK431 := n3_; have HB := n4_; clear n0_ n1_ n2_ n3_ n4_; (try clear hb); (try clear hb2); (try clear hk); (try clear hi); (try clear ho0); have hcz26_0 : w25.cell? ⟨gb431, 0, none⟩ = some (.string ((rd_T55 t422 x21_1).f0)) := (blk_cell BK431.out 0).trans rfl; have hcz26_1 : w25.cell? ⟨gb431, 1, none⟩ = some (.int .i64 ((rd_T55 t422 x21_1).f1)) := (blk_cell BK431.out 1).trans rfl; have hfz26_0 := blk_frozen BK431.out 0; have hfz26_1 := blk_frozen BK431.out 1; obtain ⟨Ao27, co27, eo27⟩ := Kd.R_slice HO434.out; subst eo27; have p435 : 0 ≤ ((ji12) : Int) := of_decide_eq_true (by first|(with_reducible assumption)|assumption); have q435 : (ji12) < (t432.length : Int) := of_decide_eq_true (by first|(with_reducible assumption)|assumption); obtain ⟨ad435, e435, hx435_0⟩ := Kd.at_int (Kd.R_reads' HO434.out).2.2 (ji12) p435 q435; cases e435; replace p435 := eq_true p435; replace q435 := eq_true q435))
          repeat (go_quiet (first | ((with_reducible refine gate_dst (N := 8) rfl ?_); (try (refine gate_guard (by rfl) ?_; dsimp only)); refine box_event ?hg (N := 8) ?hd (cs := #[.string (⟨#[]⟩ : ByteArray), .int .i64 0]) (t := 55) ?hr ?_; (case hd => rfl); (case hg => rfl); (case hr => first | (go_simp; done) | (go_simp; rfl)); intro gb431 hg w22 hbox hb; have n0_ := Az.mk (Kd.Rb (by (with_reducible repeat first|apply Kd.Ra|apply Kd.Rn|apply Kd.Rw); exact HO_6.out) hb); have n1_ := Az.mk (Kd.Rb (Kd.R_elderB (by (with_reducible repeat first|apply Kd.Ra|apply Kd.Rn|apply Kd.Rw); exact HO_19.out) gb431 (Nat.le_of_eq hg.symm)) hb); have n2_ := Az.mk (bS (by repeat first|exact HB.out|apply bA|apply bN|apply bD) hb); have n3_ := Az.mk (hbox); have n4_ := Az.mk ((by rw [hg]; exact (bZ (by repeat first|exact HB.out|apply bA|apply bN|apply bD)) : w.heap.size ≤ gb431)); have n5_ := Az.mk ((by rw [hg]; exact (bZ (by repeat first|exact HB.out|apply bA|apply bN|apply bD)) : w.heap.size ≤ gb431)); clear HO_6; clear HO_19; clear HB; have HO_6 := n0_; have HO_19 := n1_; have HB := n2_; have BK431 := n3_; have GW431 := n4_; have GE431 := n5_; clear n0_ n1_ n2_ n3_ n4_ n5_; clear hb hbox hg; have hcz23_0 : w22.cell? ⟨gb431, 0, none⟩ = some (.string (⟨#[]⟩ : ByteArray)) := (blk_cell BK431.out 0).trans rfl; have hcz23_1 : w22.cell? ⟨gb431, 1, none⟩ = some (.int .i64 0) := (blk_cell BK431.out 1).trans rfl; have hfz23_0 := blk_frozen BK431.out 0; have hfz23_1 := blk_frozen BK431.out 1; obtain ⟨Ao24, co24, eo24⟩ := Kd.R_slice HO_6.out; subst eo24) | (go_at_call 57; (with_reducible refine (impl_alive.calls k1 _ _ t427 (wrap64 (x21_1 - 1)) t432 _ ?side1 ?side2 A10.out).mono ?_); (case side1 => refine (Kd.R_reads' (e := 31) (base := w.heap.size) (ok := fun k_ => True) (n := t427.length) (c := co24) ?_).2.2; exact (by (with_reducible repeat first|apply Kd.Ra|apply Kd.Rn|apply Kd.Rw); exact (Kd.R_mono (Kd.R_far (p := ⟨gb431, 1, none⟩) (Kd.R_far (p := ⟨gb431, 0, none⟩) (Kd.R_types HO_6.out BK431.out (by decide)) (fun _ hk => hk.2) (.string ((rd_T55 t422 x21_1).f0))) (fun _ hk => hk.2) (.int .i64 ((rd_T55 t422 x21_1).f1))) (fun _ h_ => h_.1)))); (case side2 => exact (Kd.R_reads' HO_6.out).2.1); rintro e w25 ⟨v433, rfl, ho0, hb⟩; have n0_ := Az.mk (Kd.Rb (by (with_reducible repeat first|apply Kd.Ra|apply Kd.Rn|apply Kd.Rw); exact (Kd.R_mono (Kd.R_far (p := ⟨gb431, 1, none⟩) (Kd.R_far (p := ⟨gb431, 0, none⟩) (Kd.R_types HO_6.out BK431.out (by decide)) (fun _ hk => hk.2) (.string ((rd_T55 t422 x21_1).f0))) (fun _ hk => hk.2) (.int .i64 ((rd_T55 t422 x21_1).f1))) (fun _ h_ => h_.1))) hb); have n1_ := Az.mk (Kd.Rb (by (with_reducible repeat first|apply Kd.Ra|apply Kd.Rn|apply Kd.Rw); exact (Kd.R_mono (Kd.R_far (p := ⟨gb431, 1, none⟩) (Kd.R_far (p := ⟨gb431, 0, none⟩) (Kd.R_mono HO_19.out (fun k_ hk => (⟨hk, hk.2⟩ : _ ∧ k_ ≠ gb431))) (fun _ hk => hk.2) (.string ((rd_T55 t422 x21_1).f0))) (fun _ hk => hk.2) (.int .i64 ((rd_T55 t422 x21_1).f1))) (fun _ h_ => h_.1))) hb); have n2_ := Az.mk (Kd.R_lower ho0 (bZ (by repeat (first | (with_reducible first|exact HB.out|apply bA|apply bN|apply bD | refine below_set ?_ GE431.out) | exact HB.out)))); have n3_ := Az.mk (blk_below (g := gb431) (o := .cells #[.string ((rd_T55 t422 x21_1).f0), .int .i64 ((rd_T55 t422 x21_1).f1)] 55 (0, 0)) (by (with_reducible repeat first|refine blN ?_ _|refine bl1 ?_|refine blA ?_ _); refine blk_put (cs := #[.string ((rd_T55 t422 x21_1).f0), .int .i64 0]) ?_ 1 _ rfl; (with_reducible repeat first|refine blN ?_ _|refine bl1 ?_|refine blA ?_ _); refine blk_put (cs := #[.string (⟨#[]⟩ : ByteArray), .int .i64 0]) ?_ 0 _ rfl; (with_reducible repeat first|refine blN ?_ _|refine bl1 ?_|refine blA ?_ _); exact BK431.out) hb); have n4_ := Az.mk (bS (by repeat (first | (with_reducible first|exact HB.out|apply bA|apply bN|apply bD | refine below_set ?_ GE431.out) | exact HB.out)) hb); clear HO_6; clear HO_19; clear BK431; clear HB; have HO_6 := n0_; have HO_19 := n1_; have HO434 := n2_; have BK431 := n3_; have HB := n4_; clear n0_ n1_ n2_ n3_ n4_; (try clear hb); (try clear hb2); (try clear hk); (try clear hi); (try clear ho0); have hcz26_0 : w25.cell? ⟨gb431, 0, none⟩ = some (.string ((rd_T55 t422 x21_1).f0)) := (blk_cell BK431.out 0).trans rfl; have hcz26_1 : w25.cell? ⟨gb431, 1, none⟩ = some (.int .i64 ((rd_T55 t422 x21_1).f1)) := (blk_cell BK431.out 1).trans rfl; have hfz26_0 := blk_frozen BK431.out 0; have hfz26_1 := blk_frozen BK431.out 1; obtain ⟨Ao27, co27, eo27⟩ := Kd.R_slice HO434.out; subst eo27; have p435 : 0 ≤ ((ji12) : Int) := of_decide_eq_true (by first|(with_reducible assumption)|assumption); have q435 : (ji12) < (t432.length : Int) := of_decide_eq_true (by first|(with_reducible assumption)|assumption); obtain ⟨ad435, e435, hx435_0⟩ := Kd.at_int (Kd.R_reads' HO434.out).2.2 (ji12) p435 q435; cases e435; replace p435 := eq_true p435; replace q435 := eq_true q435)); try go_wp2_with (first | ((with_reducible refine gate_dst (N := 8) rfl ?_); (try (refine gate_guard (by rfl) ?_; dsimp only)); refine box_event ?hg (N := 8) ?hd (cs := #[.string (⟨#[]⟩ : ByteArray), .int .i64 0]) (t := 55) ?hr ?_; (case hd => rfl); (case hg => rfl); (case hr => first | (go_simp; done) | (go_simp; rfl)); intro gb431 hg w22 hbox hb; have n0_ := Az.mk (Kd.Rb (by (with_reducible repeat first|apply Kd.Ra|apply Kd.Rn|apply Kd.Rw); exact HO_6.out) hb); have n1_ := Az.mk (Kd.Rb (Kd.R_elderB (by (with_reducible repeat first|apply Kd.Ra|apply Kd.Rn|apply Kd.Rw); exact HO_19.out) gb431 (Nat.le_of_eq hg.symm)) hb); have n2_ := Az.mk (bS (by repeat first|exact HB.out|apply bA|apply bN|apply bD) hb); have n3_ := Az.mk (hbox); have n4_ := Az.mk ((by rw [hg]; exact (bZ (by repeat first|exact HB.out|apply bA|apply bN|apply bD)) : w.heap.size ≤ gb431)); have n5_ := Az.mk ((by rw [hg]; exact (bZ (by repeat first|exact HB.out|apply bA|apply bN|apply bD)) : w.heap.size ≤ gb431)); clear HO_6; clear HO_19; clear HB; have HO_6 := n0_; have HO_19 := n1_; have HB := n2_; have BK431 := n3_; have GW431 := n4_; have GE431 := n5_; clear n0_ n1_ n2_ n3_ n4_ n5_; clear hb hbox hg; have hcz23_0 : w22.cell? ⟨gb431, 0, none⟩ = some (.string (⟨#[]⟩ : ByteArray)) := (blk_cell BK431.out 0).trans rfl; have hcz23_1 : w22.cell? ⟨gb431, 1, none⟩ = some (.int .i64 0) := (blk_cell BK431.out 1).trans rfl; have hfz23_0 := blk_frozen BK431.out 0; have hfz23_1 := blk_frozen BK431.out 1; obtain ⟨Ao24, co24, eo24⟩ := Kd.R_slice HO_6.out; subst eo24) | (go_at_call 57; (with_reducible refine (impl_alive.calls k1 _ _ t427 (wrap64 (x21_1 - 1)) t432 _ ?side1 ?side2 A10.out).mono ?_); (case side1 => refine (Kd.R_reads' (e := 31) (base := w.heap.size) (ok := fun k_ => True) (n := t427.length) (c := co24) ?_).2.2; exact (by (with_reducible repeat first|apply Kd.Ra|apply Kd.Rn|apply Kd.Rw); exact (Kd.R_mono (Kd.R_far (p := ⟨gb431, 1, none⟩) (Kd.R_far (p := ⟨gb431, 0, none⟩) (Kd.R_types HO_6.out BK431.out (by decide)) (fun _ hk => hk.2) (.string ((rd_T55 t422 x21_1).f0))) (fun _ hk => hk.2) (.int .i64 ((rd_T55 t422 x21_1).f1))) (fun _ h_ => h_.1)))); (case side2 => exact (Kd.R_reads' HO_6.out).2.1); rintro e w25 ⟨v433, rfl, ho0, hb⟩; have n0_ := Az.mk (Kd.Rb (by (with_reducible repeat first|apply Kd.Ra|apply Kd.Rn|apply Kd.Rw); exact (Kd.R_mono (Kd.R_far (p := ⟨gb431, 1, none⟩) (Kd.R_far (p := ⟨gb431, 0, none⟩) (Kd.R_types HO_6.out BK431.out (by decide)) (fun _ hk => hk.2) (.string ((rd_T55 t422 x21_1).f0))) (fun _ hk => hk.2) (.int .i64 ((rd_T55 t422 x21_1).f1))) (fun _ h_ => h_.1))) hb); have n1_ := Az.mk (Kd.Rb (by (with_reducible repeat first|apply Kd.Ra|apply Kd.Rn|apply Kd.Rw); exact (Kd.R_mono (Kd.R_far (p := ⟨gb431, 1, none⟩) (Kd.R_far (p := ⟨gb431, 0, none⟩) (Kd.R_mono HO_19.out (fun k_ hk => (⟨hk, hk.2⟩ : _ ∧ k_ ≠ gb431))) (fun _ hk => hk.2) (.string ((rd_T55 t422 x21_1).f0))) (fun _ hk => hk.2) (.int .i64 ((rd_T55 t422 x21_1).f1))) (fun _ h_ => h_.1))) hb); have n2_ := Az.mk (Kd.R_lower ho0 (bZ (by repeat (first | (with_reducible first|exact HB.out|apply bA|apply bN|apply bD | refine below_set ?_ GE431.out) | exact HB.out)))); have n3_ := Az.mk (blk_below (g := gb431) (o := .cells #[.string ((rd_T55 t422 x21_1).f0), .int .i64 ((rd_T55 t422 x21_1).f1)] 55 (0, 0)) (by (with_reducible repeat first|refine blN ?_ _|refine bl1 ?_|refine blA ?_ _); refine blk_put (cs := #[.string ((rd_T55 t422 x21_1).f0), .int .i64 0]) ?_ 1 _ rfl; (with_reducible repeat first|refine blN ?_ _|refine bl1 ?_|refine blA ?_ _); refine blk_put (cs := #[.string (⟨#[]⟩ : ByteArray), .int .i64 0]) ?_ 0 _ rfl; (with_reducible repeat first|refine blN ?_ _|refine bl1 ?_|refine blA ?_ _); exact BK431.out) hb); have n4_ := Az.mk (bS (by repeat (first | (with_reducible first|exact HB.out|apply bA|apply bN|apply bD | refine below_set ?_ GE431.out) | exact HB.out)) hb); clear HO_6; clear HO_19; clear BK431; clear HB; have HO_6 := n0_; have HO_19 := n1_; have HO434 := n2_; have BK431 := n3_; have HB := n4_; clear n0_ n1_ n2_ n3_ n4_; (try clear hb); (try clear hb2); (try clear hk); (try clear hi); (try clear ho0); have hcz26_0 : w25.cell? ⟨gb431, 0, none⟩ = some (.string ((rd_T55 t422 x21_1).f0)) := (blk_cell BK431.out 0).trans rfl; have hcz26_1 : w25.cell? ⟨gb431, 1, none⟩ = some (.int .i64 ((rd_T55 t422 x21_1).f1)) := (blk_cell BK431.out 1).trans rfl; have hfz26_0 := blk_frozen BK431.out 0; have hfz26_1 := blk_frozen BK431.out 1; obtain ⟨Ao27, co27, eo27⟩ := Kd.R_slice HO434.out; subst eo27; have p435 : 0 ≤ ((ji12) : Int) := of_decide_eq_true (by first|(with_reducible assumption)|assumption); have q435 : (ji12) < (t432.length : Int) := of_decide_eq_true (by first|(with_reducible assumption)|assumption); obtain ⟨ad435, e435, hx435_0⟩ := Kd.at_int (Kd.R_reads' HO434.out).2.2 (ji12) p435 q435; cases e435; replace p435 := eq_true p435; replace q435 := eq_true q435)))
          go_ret
          exact ⟨by first | rfl | (simp [errW_none, errW_some] <;> rfl) | (simp only [← hji12]; first | rfl | (simp [errW_none, errW_some] <;> rfl)) | (simp [*, errW_none, errW_some] <;> rfl), by repeat (first | (with_reducible first|exact HB.out|apply bA|apply bN|apply bD | refine below_set ?_ GE431.out) | exact HB.out)⟩
        ·rw [if_neg c14] at H
         exact absurd H (by simp)
       ·rw [if_neg c13] at H
        exact absurd H (by simp)
      ·rw [if_neg c11] at H
       have c11b0 : (((rd_T55 t422 x21_1).f0).toList == ([45] : List UInt8)) = false := beq_eq_false_iff_ne.mpr c11
       have c11b1 : (((rd_T55 t422 x21_1).f0).toList != ([45] : List UInt8)) = true := bne_iff_ne.mpr c11
       have H' := Az.mk H
       clear H
       have p430 : 0 ≤ (x21_1 : Int) := of_decide_eq_true (by first|(with_reducible assumption)|assumption)
       have q430 : x21_1 < (t422.length : Int) := of_decide_eq_true (by first|(with_reducible assumption)|assumption)
       obtain ⟨ad430, e430, hx430_0, hx430_1⟩ := at_T55 (Kd.R_reads' HO_19.out).2.2 x21_1 p430 q430
       cases e430
       replace p430 := eq_true p430
       replace q430 := eq_true q430
       go_wp2_with (first | ((with_reducible refine gate_dst (N := 8) rfl ?_); (try (refine gate_guard (by rfl) ?_; dsimp only)); refine box_event ?hg (N := 8) ?hd (cs := #[.string (⟨#[]⟩ : ByteArray), .int .i64 0]) (t := 55) ?hr ?_; (case hd => rfl); (case hg => rfl); (case hr => first | (go_simp; done) | (go_simp; rfl)); intro gb431 hg w28 hbox hb; have n0_ := Az.mk (Kd.Rb (by (with_reducible repeat first|apply Kd.Ra|apply Kd.Rn|apply Kd.Rw); exact HO_6.out) hb); have n1_ := Az.mk (Kd.Rb (Kd.R_elderB (by (with_reducible repeat first|apply Kd.Ra|apply Kd.Rn|apply Kd.Rw); exact HO_19.out) gb431 (Nat.le_of_eq hg.symm)) hb); have n2_ := Az.mk (bS (by repeat first|exact HB.out|apply bA|apply bN|apply bD) hb); have n3_ := Az.mk (hbox); have n4_ := Az.mk ((by rw [hg]; exact (bZ (by repeat first|exact HB.out|apply bA|apply bN|apply bD)) : w.heap.size ≤ gb431)); have n5_ := Az.mk ((by rw [hg]; exact (bZ (by repeat first|exact HB.out|apply bA|apply bN|apply bD)) : w.heap.size ≤ gb431)); clear HO_6; clear HO_19; clear HB; have HO_6 := n0_; have HO_19 := n1_; have HB := n2_; have BK431 := n3_; have GW431 := n4_; have GE431 := n5_; clear n0_ n1_ n2_ n3_ n4_ n5_; clear hb hbox hg; have hcz29_0 : w28.cell? ⟨gb431, 0, none⟩ = some (.string (⟨#[]⟩ : ByteArray)) := (blk_cell BK431.out 0).trans rfl; have hcz29_1 : w28.cell? ⟨gb431, 1, none⟩ = some (.int .i64 0) := (blk_cell BK431.out 1).trans rfl; have hfz29_0 := blk_frozen BK431.out 0; have hfz29_1 := blk_frozen BK431.out 1; obtain ⟨Ao30, co30, eo30⟩ := Kd.R_slice HO_6.out; subst eo30) | (go_at_call 57; (with_reducible refine (impl_alive.calls k1 _ _ t427 (wrap64 (x21_1 - 1)) t432 _ ?side1 ?side2 A10.out).mono ?_); (case side1 => refine (Kd.R_reads' (e := 31) (base := w.heap.size) (ok := fun k_ => True) (n := t427.length) (c := co30) ?_).2.2; exact (by (with_reducible repeat first|apply Kd.Ra|apply Kd.Rn|apply Kd.Rw); exact (Kd.R_mono (Kd.R_far (p := ⟨gb431, 1, none⟩) (Kd.R_far (p := ⟨gb431, 0, none⟩) (Kd.R_types HO_6.out BK431.out (by decide)) (fun _ hk => hk.2) (.string ((rd_T55 t422 x21_1).f0))) (fun _ hk => hk.2) (.int .i64 ((rd_T55 t422 x21_1).f1))) (fun _ h_ => h_.1)))); (case side2 => exact (Kd.R_reads' HO_6.out).2.1); rintro e w31 ⟨v433, rfl, ho0, hb⟩; have n0_ := Az.mk (Kd.Rb (by (with_reducible repeat first|apply Kd.Ra|apply Kd.Rn|apply Kd.Rw); exact (Kd.R_mono (Kd.R_far (p := ⟨gb431, 1, none⟩) (Kd.R_far (p := ⟨gb431, 0, none⟩) (Kd.R_types HO_6.out BK431.out (by decide)) (fun _ hk => hk.2) (.string ((rd_T55 t422 x21_1).f0))) (fun _ hk => hk.2) (.int .i64 ((rd_T55 t422 x21_1).f1))) (fun _ h_ => h_.1))) hb); have n1_ := Az.mk (Kd.Rb (by (with_reducible repeat first|apply Kd.Ra|apply Kd.Rn|apply Kd.Rw); exact (Kd.R_mono (Kd.R_far (p := ⟨gb431, 1, none⟩) (Kd.R_far (p := ⟨gb431, 0, none⟩) (Kd.R_mono HO_19.out (fun k_ hk => (⟨hk, hk.2⟩ : _ ∧ k_ ≠ gb431))) (fun _ hk => hk.2) (.string ((rd_T55 t422 x21_1).f0))) (fun _ hk => hk.2) (.int .i64 ((rd_T55 t422 x21_1).f1))) (fun _ h_ => h_.1))) hb); have n2_ := Az.mk (Kd.R_lower ho0 (bZ (by repeat (first | (with_reducible first|exact HB.out|apply bA|apply bN|apply bD | refine below_set ?_ GE431.out) | exact HB.out)))); have n3_ := Az.mk (blk_below (g := gb431) (o := .cells #[.string ((rd_T55 t422 x21_1).f0), .int .i64 ((rd_T55 t422 x21_1).f1)] 55 (0, 0)) (by (with_reducible repeat first|refine blN ?_ _|refine bl1 ?_|refine blA ?_ _); refine blk_put (cs := #[.string ((rd_T55 t422 x21_1).f0), .int .i64 0]) ?_ 1 _ rfl; (with_reducible repeat first|refine blN ?_ _|refine bl1 ?_|refine blA ?_ _); refine blk_put (cs := #[.string (⟨#[]⟩ : ByteArray), .int .i64 0]) ?_ 0 _ rfl; (with_reducible repeat first|refine blN ?_ _|refine bl1 ?_|refine blA ?_ _); exact BK431.out) hb); have n4_ := Az.mk (bS (by repeat (first | (with_reducible first|exact HB.out|apply bA|apply bN|apply bD | refine below_set ?_ GE431.out) | exact HB.out)) hb); clear HO_6; clear HO_19; clear BK431; clear HB; have HO_6 := n0_; have HO_19 := n1_; have HO434 := n2_; have BK431 := n3_; have HB := n4_; clear n0_ n1_ n2_ n3_ n4_; (try clear hb); (try clear hb2); (try clear hk); (try clear hi); (try clear ho0); have hcz32_0 : w31.cell? ⟨gb431, 0, none⟩ = some (.string ((rd_T55 t422 x21_1).f0)) := (blk_cell BK431.out 0).trans rfl; have hcz32_1 : w31.cell? ⟨gb431, 1, none⟩ = some (.int .i64 ((rd_T55 t422 x21_1).f1)) := (blk_cell BK431.out 1).trans rfl; have hfz32_0 := blk_frozen BK431.out 0; have hfz32_1 := blk_frozen BK431.out 1))
       repeat (go_quiet (first | ((with_reducible refine gate_dst (N := 8) rfl ?_); (try (refine gate_guard (by rfl) ?_; dsimp only)); refine box_event ?hg (N := 8) ?hd (cs := #[.string (⟨#[]⟩ : ByteArray), .int .i64 0]) (t := 55) ?hr ?_; (case hd => rfl); (case hg => rfl); (case hr => first | (go_simp; done) | (go_simp; rfl)); intro gb431 hg w28 hbox hb; have n0_ := Az.mk (Kd.Rb (by (with_reducible repeat first|apply Kd.Ra|apply Kd.Rn|apply Kd.Rw); exact HO_6.out) hb); have n1_ := Az.mk (Kd.Rb (Kd.R_elderB (by (with_reducible repeat first|apply Kd.Ra|apply Kd.Rn|apply Kd.Rw); exact HO_19.out) gb431 (Nat.le_of_eq hg.symm)) hb); have n2_ := Az.mk (bS (by repeat first|exact HB.out|apply bA|apply bN|apply bD) hb); have n3_ := Az.mk (hbox); have n4_ := Az.mk ((by rw [hg]; exact (bZ (by repeat first|exact HB.out|apply bA|apply bN|apply bD)) : w.heap.size ≤ gb431)); have n5_ := Az.mk ((by rw [hg]; exact (bZ (by repeat first|exact HB.out|apply bA|apply bN|apply bD)) : w.heap.size ≤ gb431)); clear HO_6; clear HO_19; clear HB; have HO_6 := n0_; have HO_19 := n1_; have HB := n2_; have BK431 := n3_; have GW431 := n4_; have GE431 := n5_; clear n0_ n1_ n2_ n3_ n4_ n5_; clear hb hbox hg; have hcz29_0 : w28.cell? ⟨gb431, 0, none⟩ = some (.string (⟨#[]⟩ : ByteArray)) := (blk_cell BK431.out 0).trans rfl; have hcz29_1 : w28.cell? ⟨gb431, 1, none⟩ = some (.int .i64 0) := (blk_cell BK431.out 1).trans rfl; have hfz29_0 := blk_frozen BK431.out 0; have hfz29_1 := blk_frozen BK431.out 1; obtain ⟨Ao30, co30, eo30⟩ := Kd.R_slice HO_6.out; subst eo30) | (go_at_call 57; (with_reducible refine (impl_alive.calls k1 _ _ t427 (wrap64 (x21_1 - 1)) t432 _ ?side1 ?side2 A10.out).mono ?_); (case side1 => refine (Kd.R_reads' (e := 31) (base := w.heap.size) (ok := fun k_ => True) (n := t427.length) (c := co30) ?_).2.2; exact (by (with_reducible repeat first|apply Kd.Ra|apply Kd.Rn|apply Kd.Rw); exact (Kd.R_mono (Kd.R_far (p := ⟨gb431, 1, none⟩) (Kd.R_far (p := ⟨gb431, 0, none⟩) (Kd.R_types HO_6.out BK431.out (by decide)) (fun _ hk => hk.2) (.string ((rd_T55 t422 x21_1).f0))) (fun _ hk => hk.2) (.int .i64 ((rd_T55 t422 x21_1).f1))) (fun _ h_ => h_.1)))); (case side2 => exact (Kd.R_reads' HO_6.out).2.1); rintro e w31 ⟨v433, rfl, ho0, hb⟩; have n0_ := Az.mk (Kd.Rb (by (with_reducible repeat first|apply Kd.Ra|apply Kd.Rn|apply Kd.Rw); exact (Kd.R_mono (Kd.R_far (p := ⟨gb431, 1, none⟩) (Kd.R_far (p := ⟨gb431, 0, none⟩) (Kd.R_types HO_6.out BK431.out (by decide)) (fun _ hk => hk.2) (.string ((rd_T55 t422 x21_1).f0))) (fun _ hk => hk.2) (.int .i64 ((rd_T55 t422 x21_1).f1))) (fun _ h_ => h_.1))) hb); have n1_ := Az.mk (Kd.Rb (by (with_reducible repeat first|apply Kd.Ra|apply Kd.Rn|apply Kd.Rw); exact (Kd.R_mono (Kd.R_far (p := ⟨gb431, 1, none⟩) (Kd.R_far (p := ⟨gb431, 0, none⟩) (Kd.R_mono HO_19.out (fun k_ hk => (⟨hk, hk.2⟩ : _ ∧ k_ ≠ gb431))) (fun _ hk => hk.2) (.string ((rd_T55 t422 x21_1).f0))) (fun _ hk => hk.2) (.int .i64 ((rd_T55 t422 x21_1).f1))) (fun _ h_ => h_.1))) hb); have n2_ := Az.mk (Kd.R_lower ho0 (bZ (by repeat (first | (with_reducible first|exact HB.out|apply bA|apply bN|apply bD | refine below_set ?_ GE431.out) | exact HB.out)))); have n3_ := Az.mk (blk_below (g := gb431) (o := .cells #[.string ((rd_T55 t422 x21_1).f0), .int .i64 ((rd_T55 t422 x21_1).f1)] 55 (0, 0)) (by (with_reducible repeat first|refine blN ?_ _|refine bl1 ?_|refine blA ?_ _); refine blk_put (cs := #[.string ((rd_T55 t422 x21_1).f0), .int .i64 0]) ?_ 1 _ rfl; (with_reducible repeat first|refine blN ?_ _|refine bl1 ?_|refine blA ?_ _); refine blk_put (cs := #[.string (⟨#[]⟩ : ByteArray), .int .i64 0]) ?_ 0 _ rfl; (with_reducible repeat first|refine blN ?_ _|refine bl1 ?_|refine blA ?_ _); exact BK431.out) hb); have n4_ := Az.mk (bS (by repeat (first | (with_reducible first|exact HB.out|apply bA|apply bN|apply bD | refine below_set ?_ GE431.out) | exact HB.out)) hb); clear HO_6; clear HO_19; clear BK431; clear HB; have HO_6 := n0_; have HO_19 := n1_; have HO434 := n2_; have BK431 := n3_; have HB := n4_; clear n0_ n1_ n2_ n3_ n4_; (try clear hb); (try clear hb2); (try clear hk); (try clear hi); (try clear ho0); have hcz32_0 : w31.cell? ⟨gb431, 0, none⟩ = some (.string ((rd_T55 t422 x21_1).f0)) := (blk_cell BK431.out 0).trans rfl; have hcz32_1 : w31.cell? ⟨gb431, 1, none⟩ = some (.int .i64 ((rd_T55 t422 x21_1).f1)) := (blk_cell BK431.out 1).trans rfl; have hfz32_0 := blk_frozen BK431.out 0; have hfz32_1 := blk_frozen BK431.out 1)); try go_wp2_with (first | ((with_reducible refine gate_dst (N := 8) rfl ?_); (try (refine gate_guard (by rfl) ?_; dsimp only)); refine box_event ?hg (N := 8) ?hd (cs := #[.string (⟨#[]⟩ : ByteArray), .int .i64 0]) (t := 55) ?hr ?_; (case hd => rfl); (case hg => rfl); (case hr => first | (go_simp; done) | (go_simp; rfl)); intro gb431 hg w28 hbox hb; have n0_ := Az.mk (Kd.Rb (by (with_reducible repeat first|apply Kd.Ra|apply Kd.Rn|apply Kd.Rw); exact HO_6.out) hb); have n1_ := Az.mk (Kd.Rb (Kd.R_elderB (by (with_reducible repeat first|apply Kd.Ra|apply Kd.Rn|apply Kd.Rw); exact HO_19.out) gb431 (Nat.le_of_eq hg.symm)) hb); have n2_ := Az.mk (bS (by repeat first|exact HB.out|apply bA|apply bN|apply bD) hb); have n3_ := Az.mk (hbox); have n4_ := Az.mk ((by rw [hg]; exact (bZ (by repeat first|exact HB.out|apply bA|apply bN|apply bD)) : w.heap.size ≤ gb431)); have n5_ := Az.mk ((by rw [hg]; exact (bZ (by repeat first|exact HB.out|apply bA|apply bN|apply bD)) : w.heap.size ≤ gb431)); clear HO_6; clear HO_19; clear HB; have HO_6 := n0_; have HO_19 := n1_; have HB := n2_; have BK431 := n3_; have GW431 := n4_; have GE431 := n5_; clear n0_ n1_ n2_ n3_ n4_ n5_; clear hb hbox hg; have hcz29_0 : w28.cell? ⟨gb431, 0, none⟩ = some (.string (⟨#[]⟩ : ByteArray)) := (blk_cell BK431.out 0).trans rfl; have hcz29_1 : w28.cell? ⟨gb431, 1, none⟩ = some (.int .i64 0) := (blk_cell BK431.out 1).trans rfl; have hfz29_0 := blk_frozen BK431.out 0; have hfz29_1 := blk_frozen BK431.out 1; obtain ⟨Ao30, co30, eo30⟩ := Kd.R_slice HO_6.out; subst eo30) | (go_at_call 57; (with_reducible refine (impl_alive.calls k1 _ _ t427 (wrap64 (x21_1 - 1)) t432 _ ?side1 ?side2 A10.out).mono ?_); (case side1 => refine (Kd.R_reads' (e := 31) (base := w.heap.size) (ok := fun k_ => True) (n := t427.length) (c := co30) ?_).2.2; exact (by (with_reducible repeat first|apply Kd.Ra|apply Kd.Rn|apply Kd.Rw); exact (Kd.R_mono (Kd.R_far (p := ⟨gb431, 1, none⟩) (Kd.R_far (p := ⟨gb431, 0, none⟩) (Kd.R_types HO_6.out BK431.out (by decide)) (fun _ hk => hk.2) (.string ((rd_T55 t422 x21_1).f0))) (fun _ hk => hk.2) (.int .i64 ((rd_T55 t422 x21_1).f1))) (fun _ h_ => h_.1)))); (case side2 => exact (Kd.R_reads' HO_6.out).2.1); rintro e w31 ⟨v433, rfl, ho0, hb⟩; have n0_ := Az.mk (Kd.Rb (by (with_reducible repeat first|apply Kd.Ra|apply Kd.Rn|apply Kd.Rw); exact (Kd.R_mono (Kd.R_far (p := ⟨gb431, 1, none⟩) (Kd.R_far (p := ⟨gb431, 0, none⟩) (Kd.R_types HO_6.out BK431.out (by decide)) (fun _ hk => hk.2) (.string ((rd_T55 t422 x21_1).f0))) (fun _ hk => hk.2) (.int .i64 ((rd_T55 t422 x21_1).f1))) (fun _ h_ => h_.1))) hb); have n1_ := Az.mk (Kd.Rb (by (with_reducible repeat first|apply Kd.Ra|apply Kd.Rn|apply Kd.Rw); exact (Kd.R_mono (Kd.R_far (p := ⟨gb431, 1, none⟩) (Kd.R_far (p := ⟨gb431, 0, none⟩) (Kd.R_mono HO_19.out (fun k_ hk => (⟨hk, hk.2⟩ : _ ∧ k_ ≠ gb431))) (fun _ hk => hk.2) (.string ((rd_T55 t422 x21_1).f0))) (fun _ hk => hk.2) (.int .i64 ((rd_T55 t422 x21_1).f1))) (fun _ h_ => h_.1))) hb); have n2_ := Az.mk (Kd.R_lower ho0 (bZ (by repeat (first | (with_reducible first|exact HB.out|apply bA|apply bN|apply bD | refine below_set ?_ GE431.out) | exact HB.out)))); have n3_ := Az.mk (blk_below (g := gb431) (o := .cells #[.string ((rd_T55 t422 x21_1).f0), .int .i64 ((rd_T55 t422 x21_1).f1)] 55 (0, 0)) (by (with_reducible repeat first|refine blN ?_ _|refine bl1 ?_|refine blA ?_ _); refine blk_put (cs := #[.string ((rd_T55 t422 x21_1).f0), .int .i64 0]) ?_ 1 _ rfl; (with_reducible repeat first|refine blN ?_ _|refine bl1 ?_|refine blA ?_ _); refine blk_put (cs := #[.string (⟨#[]⟩ : ByteArray), .int .i64 0]) ?_ 0 _ rfl; (with_reducible repeat first|refine blN ?_ _|refine bl1 ?_|refine blA ?_ _); exact BK431.out) hb); have n4_ := Az.mk (bS (by repeat (first | (with_reducible first|exact HB.out|apply bA|apply bN|apply bD | refine below_set ?_ GE431.out) | exact HB.out)) hb); clear HO_6; clear HO_19; clear BK431; clear HB; have HO_6 := n0_; have HO_19 := n1_; have HO434 := n2_; have BK431 := n3_; have HB := n4_; clear n0_ n1_ n2_ n3_ n4_; (try clear hb); (try clear hb2); (try clear hk); (try clear hi); (try clear ho0); have hcz32_0 : w31.cell? ⟨gb431, 0, none⟩ = some (.string ((rd_T55 t422 x21_1).f0)) := (blk_cell BK431.out 0).trans rfl; have hcz32_1 : w31.cell? ⟨gb431, 1, none⟩ = some (.int .i64 ((rd_T55 t422 x21_1).f1)) := (blk_cell BK431.out 1).trans rfl; have hfz32_0 := blk_frozen BK431.out 0; have hfz32_1 := blk_frozen BK431.out 1)))
       go_roundg k1
       case measure => have := HK1.out; omega
       case rel => exact ⟨(wrap64 (x21_1 + 1)), (by first | rfl | (simp; done) | (simp [*]; done)), H', ⟨by have := HK1.out; omega⟩, ⟨by (with_reducible repeat first|apply Kd.Ra|apply Kd.Rn|apply Kd.Rw); exact HO_6.out⟩, ⟨by (with_reducible repeat first|apply Kd.Ra|apply Kd.Rn|apply Kd.Rw); exact Kd.R_mono HO_19.out (fun _ hk => trivial)⟩, ⟨by repeat (first | (with_reducible first|exact HB.out|apply bA|apply bN|apply bD | refine below_set ?_ GE431.out) | exact HB.out)⟩⟩
     ·rw [if_neg c9] at H
      exact absurd H (by simp)
    ·rw [if_neg c8] at H
     exact absurd H (by simp)
   ·rw [if_neg c7] at H
    have c7b0 : decide (x21_1 < (t422.length : Int)) = false := decide_eq_false c7
    clear c7
    obtain rfl := Option.some.inj H
    go_wp2
    repeat (go_quiet (fail); try go_wp2)
    go_ret
    exact ⟨by first | rfl | (simp [errW_none, errW_some] <;> rfl) | (simp [*, errW_none, errW_some] <;> rfl), by repeat (first | (with_reducible first|exact HB.out|apply bA|apply bN|apply bD) | exact HB.out)⟩
end Go.Proofs.YtndjbnkmhpbnpaaGreatDoor.Pr
namespace Go.Proofs.YtndjbnkmhpbnpaaGreatDoor.Pr
open Go.RowKit Go.Proofs.YtndjbnkmhpbnpaaGreatDoorW.PrintWords Go.Proofs.YtndjbnkmhpbnpaaGreatDoorW.PrintLast Go.Proofs.YtndjbnkmhpbnpaaGreatDoorW.PrintMore
theorem filter_last : ∀ (l : List Int) (n : Int), l.Pairwise (· < ·) → l.getLast? = some n → l.filter (fun y => y != n) = l.take (l.length - 1)
 | [], n, _, h => by simp at h
 | [a], n, _, h => by simp at h; subst h; simp
 | a :: b :: r, n, hp, h => by
  cases hp with
  | cons h1 h2 =>
   rw [List.getLast?_cons_cons] at h
   have hn : n ∈ b :: r := List.mem_of_getLast? h
   have hlt := h1 n hn
   rw [List.filter_cons_of_pos (by simp only [bne_iff_ne]; omega), filter_last (b :: r) n h2 h]
   simp
theorem last_rd {l : List Int} {n : Int} (h : l ≠ []) : rd l ((l.length : Int) - 1) = n ↔ l.getLast? = some n := by
 have hl : 0 < l.length := List.length_pos_iff.2 h
 rw [List.getLast?_eq_getElem?, show (l.length : Int) - 1 = ((l.length - 1 : Nat) : Int) by omega, rd_at (by omega), List.getElem?_eq_getElem (by omega)]
 simp
theorem nested_go {o : List S55} {m : Nat} {l : List Int} (g : Good o m l) (hl : o.length ≤ 1000000) (b : Bool) : ∀ (d i m' : Nat) (l' : List Int), i + d = o.length → Good (o.take i) m' l' →
  ∃ r, Ev (fun k => spec_AreNested.l0 k b l' (o.map conv) ((o.map conv).length : Int) (i : Int)) r ∧ Ev (fun k => impl_AreNested.l0 k b (lvs o) o (o.length : Int) (i : Int)) r
 | 0, i, m', l', hi, g' => by
  refine ⟨b, ?_, ?_⟩
  ·refine Ev.step (fun k => spec_AreNested.l0.eq_2 (k := k) ..) ?_
   simp only [if_neg (show ¬ ((i : Int) < ((o.map conv).length : Int)) by simp; omega)]
   exact Ev.now _
  ·refine Ev.step (fun k => impl_AreNested.l0.eq_2 (k := k) ..) ?_
   simp only [if_neg (show ¬ ((i : Int) < (o.length : Int)) by omega)]
   exact Ev.now _
 | d + 1, i, m', l', hi, g' => by
  obtain ⟨e, m1, l1, h1, h2, h3, h4, h5⟩ := g.step i (by omega)
  obtain ⟨rfl, rfl⟩ := g'.uniq h3
  have hal := g.alv_take i m' l' (by omega) g'
  have hm := g'.made
  have hll := g.lvs_length
  have hgm := g.made
  simp only [List.length_take] at hm
  have S : ∀ r, (Ev (fun k => if (conv e).f0 = 43 then (if l'.length < 17592186044416 then (spec_AreNested.l0 k b (l' ++ [(conv e).f1]) (o.map conv) ((o.map conv).length : Int) ((i + 1 : Nat) : Int)) else (none)) else (if (conv e).f0 = 45 then (if 0 ≤ (wrap64 ((l'.length : Int) - 1)) then (if (wrap64 ((l'.length : Int) - 1)) < (l'.length : Int) then (if (rd l' (wrap64 ((l'.length : Int) - 1))) = (conv e).f1 then (if (wrap64 ((l'.length : Int) - 1)) ≤ (l'.length : Int) then (spec_AreNested.l0 k b (l'.take ((wrap64 ((l'.length : Int) - 1)) : Int).toNat) (o.map conv) ((o.map conv).length : Int) ((i + 1 : Nat) : Int)) else (none)) else (some false)) else (none)) else (none)) else (spec_AreNested.l0 k b l' (o.map conv) ((o.map conv).length : Int) ((i + 1 : Nat) : Int)))) r) →
    Ev (fun k => spec_AreNested.l0 k b l' (o.map conv) ((o.map conv).length : Int) (i : Int)) r := by
   intro r h
   refine Ev.step (fun k => spec_AreNested.l0.eq_2 (k := k) ..) ?_
   simp only [if_pos (show ((i : Int) < ((o.map conv).length : Int)) by simp; omega), if_pos (show (0 : Int) ≤ (i : Int) by omega), rd59_at h1, wrap_up (show i ≤ 1000000000 by omega)]
   exact h
  have I : ∀ r, (Ev (fun k => if e.f0.toList = ([45] : List UInt8) then (if 0 ≤ (wrap64 ((l'.length : Int) - 1)) then (if (wrap64 ((l'.length : Int) - 1)) < (l'.length : Int) then (if (rd l' (wrap64 ((l'.length : Int) - 1))) = e.f1 then (impl_AreNested.l0 k b (lvs o) o (o.length : Int) ((i + 1 : Nat) : Int)) else (some false)) else (none)) else (none)) else (impl_AreNested.l0 k b (lvs o) o (o.length : Int) ((i + 1 : Nat) : Int))) r) →
    Ev (fun k => impl_AreNested.l0 k b (lvs o) o (o.length : Int) (i : Int)) r := by
   intro r h
   refine Ev.step (fun k => impl_AreNested.l0.eq_2 (k := k) ..) ?_
   simp only [if_pos (show ((i : Int) < (o.length : Int)) by omega), if_pos (show (0 : Int) ≤ (i : Int) by omega), rd62_at h1, wrap_up (show i ≤ 1000000000 by omega)]
   have A := alive_ev (lvs o) (wrap64 ((i : Int) - 1)) (by omega)
   rw [wrap_small (by omega) (by omega), hal] at A
   rw [wrap_small (n := (i : Int) - 1) (by omega) (by omega)]
   exact Ev.bind A h
  rcases h5 with ⟨hs, hn, _, g2⟩ | ⟨hs, hn, g2⟩ | ⟨hs, hn, g2⟩
  ·obtain ⟨r, r1, r2⟩ := nested_go g hl b d (i + 1) _ _ (by omega) g2
   refine ⟨r, S r ?_, I r ?_⟩
   ·simp only [if_pos (conv_43 hs), if_pos (show l'.length < 17592186044416 by omega), conv_f1, hn]
    exact r1
   ·simp only [if_neg (show ¬ e.f0.toList = [45] by rw [hs]; decide)]
    exact r2
  ·obtain ⟨r, r1, r2⟩ := nested_go g hl b d (i + 1) _ _ (by omega) g2
   refine ⟨r, S r ?_, I r ?_⟩
   ·simp only [conv_46 hs, show ¬ ((46 : Int) = 43) by decide, show ¬ ((46 : Int) = 45) by decide, if_false]
    exact r1
   ·simp only [if_neg (show ¬ e.f0.toList = [45] by rw [hs]; decide)]
    exact r2
  ·have hne : l' ≠ [] := List.ne_nil_of_mem hn
   have hlp : 0 < l'.length := List.length_pos_iff.2 hne
   have hw : wrap64 ((l'.length : Int) - 1) = (l'.length : Int) - 1 := wrap_small (by omega) (by omega)
   by_cases hlast : l'.getLast? = some e.f1
   ·obtain ⟨r, r1, r2⟩ := nested_go g hl b d (i + 1) _ _ (by omega) g2
    refine ⟨r, S r ?_, I r ?_⟩
    ·simp only [conv_45 hs, show ¬ ((45 : Int) = 43) by decide, if_false, if_true, hw, if_pos (show 0 ≤ (l'.length : Int) - 1 by omega), if_pos (show (l'.length : Int) - 1 < (l'.length : Int) by omega), conv_f1, if_pos ((last_rd hne).2 hlast), if_pos (show (l'.length : Int) - 1 ≤ (l'.length : Int) by omega)]
     rw [show ((l'.length : Int) - 1).toNat = l'.length - 1 by omega, ← filter_last _ _ g'.sorted hlast]
     exact r1
    ·simp only [if_pos hs, hw, if_pos (show 0 ≤ (l'.length : Int) - 1 by omega), if_pos (show (l'.length : Int) - 1 < (l'.length : Int) by omega), if_pos ((last_rd hne).2 hlast)]
     exact r2
   ·have hlast' : ¬ rd l' ((l'.length : Int) - 1) = e.f1 := fun h => hlast ((last_rd hne).1 h)
    refine ⟨false, S false ?_, I false ?_⟩
    ·simp only [conv_45 hs, show ¬ ((45 : Int) = 43) by decide, if_false, if_true, hw, if_pos (show 0 ≤ (l'.length : Int) - 1 by omega), if_pos (show (l'.length : Int) - 1 < (l'.length : Int) by omega), conv_f1, if_neg hlast']
     exact Ev.now _
    ·simp only [if_pos hs, hw, if_pos (show 0 ≤ (l'.length : Int) - 1 by omega), if_pos (show (l'.length : Int) - 1 < (l'.length : Int) by omega), if_neg hlast']
     exact Ev.now _
theorem nested_ev (a0 : ByteArray) (hs : a0.size ≤ 1048576) : ∃ r, Ev (fun k => spec_AreNested.f k a0) r ∧ Ev (fun k => impl_AreNested.f k a0) r := by
 obtain ⟨m, l, g, hm, hl⟩ := told_good a0
 obtain ⟨r, h1, h2⟩ := nested_go g (by omega) (toldOf a0).2.2 _ 0 0 [] (Nat.zero_add _) .nil
 refine ⟨r, ?_, ?_⟩
 ·unfold spec_AreNested.f
  exact Ev.bind (l7Read_ev a0 hs) h1
 ·unfold impl_AreNested.f
  simp only [told_f a0 hs, Option.bind_some, hm, lives_told g (show (toldOf a0).1.length ≤ 1000000 by omega)]
  exact h2
end Go.Proofs.YtndjbnkmhpbnpaaGreatDoor.Pr
namespace Go.Proofs.YtndjbnkmhpbnpaaGreatDoor.Pr
open Go.RowKit Go.Proofs.YtndjbnkmhpbnpaaGreatDoorW.PrintWords Go.Proofs.YtndjbnkmhpbnpaaGreatDoorW.PrintLast Go.Proofs.YtndjbnkmhpbnpaaGreatDoorW.PrintMore
set_option linter.unusedVariables false
set_option linter.unusedSimpArgs false
theorem elSame_go (xs : List Int) (hx : xs.length ≤ 1000000) : ∀ (d i : Nat), i + d = xs.length → Ev (fun k => laws_elSame.l0 k xs xs (xs.length : Int) (i : Int)) true
 | 0, i, hi => by
  refine Ev.step (fun k => laws_elSame.l0.eq_2 (k := k) ..) ?_
  simp only [if_neg (show ¬ ((i : Int) < (xs.length : Int)) by omega), beq_self_eq_true]
  exact Ev.now _
 | d + 1, i, hi => by
  have ih := elSame_go xs hx d (i + 1) (by omega)
  refine Ev.step (fun k => laws_elSame.l0.eq_2 (k := k) ..) ?_
  simp only [if_pos (show ((i : Int) < (xs.length : Int)) by omega), if_pos (show (0 : Int) ≤ (i : Int) by omega), if_true, wrap_up (show i ≤ 1000000000 by omega)]
  exact ih
theorem elSame_ev (xs : List Int) (hx : xs.length ≤ 1000000) : Ev (fun k => laws_elSame.f k xs xs) true := by
 unfold laws_elSame.f
 have : mn (xs.length : Int) (xs.length : Int) = (xs.length : Int) := by unfold mn; split <;> rfl
 rw [this]
 exact elSame_go xs hx xs.length 0 (Nat.zero_add _)
def Nest (o : List S55) (i : Nat) : Prop := ∀ (j : Nat) (e : S55) (m : Nat) (l : List Int), i ≤ j → o[j]? = some e → e.f0.toList = [45] → Good (o.take j) m l → l.getLast? = some e.f1
theorem nest_go {o : List S55} {m : Nat} {l : List Int} (g : Good o m l) (hl : o.length ≤ 1000000) (b : Bool) : ∀ (d i m' : Nat) (l' : List Int), i + d = o.length → Good (o.take i) m' l' →
  ∃ r, Ev (fun k => impl_AreNested.l0 k b (lvs o) o (o.length : Int) (i : Int)) r ∧ (r = true ↔ b = true ∧ Nest o i)
 | 0, i, m', l', hi, g' => by
  refine ⟨b, ?_, ⟨fun h => ⟨h, fun j e _ _ hj he _ _ => ?_⟩, fun h => h.1⟩⟩
  ·refine Ev.step (fun k => impl_AreNested.l0.eq_2 (k := k) ..) ?_
   simp only [if_neg (show ¬ ((i : Int) < (o.length : Int)) by omega)]
   exact Ev.now _
  ·have := (List.getElem?_eq_some_iff.1 he).1
   omega
 | d + 1, i, m', l', hi, g' => by
  obtain ⟨e, m1, l1, h1, h2, h3, h4, h5⟩ := g.step i (by omega)
  obtain ⟨rfl, rfl⟩ := g'.uniq h3
  have hal := g.alv_take i m' l' (by omega) g'
  have hm := g'.made
  have hll := g.lvs_length
  have hgm := g.made
  simp only [List.length_take] at hm
  have I : ∀ r, (Ev (fun k => if e.f0.toList = ([45] : List UInt8) then (if 0 ≤ (wrap64 ((l'.length : Int) - 1)) then (if (wrap64 ((l'.length : Int) - 1)) < (l'.length : Int) then (if (rd l' (wrap64 ((l'.length : Int) - 1))) = e.f1 then (impl_AreNested.l0 k b (lvs o) o (o.length : Int) ((i + 1 : Nat) : Int)) else (some false)) else (none)) else (none)) else (impl_AreNested.l0 k b (lvs o) o (o.length : Int) ((i + 1 : Nat) : Int))) r) →
    Ev (fun k => impl_AreNested.l0 k b (lvs o) o (o.length : Int) (i : Int)) r := by
   intro r h
   refine Ev.step (fun k => impl_AreNested.l0.eq_2 (k := k) ..) ?_
   simp only [if_pos (show ((i : Int) < (o.length : Int)) by omega), if_pos (show (0 : Int) ≤ (i : Int) by omega), rd62_at h1, wrap_up (show i ≤ 1000000000 by omega)]
   have A := alive_ev (lvs o) (wrap64 ((i : Int) - 1)) (by omega)
   rw [wrap_small (by omega) (by omega), hal] at A
   rw [wrap_small (n := (i : Int) - 1) (by omega) (by omega)]
   exact Ev.bind A h
  have hmore : (e.f0.toList = [45] → l'.getLast? = some e.f1) → (Nest o i ↔ Nest o (i + 1)) := by
   intro hx
   refine ⟨fun h j e' m' l' hj => h j e' m' l' (by omega), fun h j e' m'' l'' hj he' hs' g'' => ?_⟩
   by_cases hji : j = i
   ·subst hji
    rw [h1] at he'
    injection he' with he'
    subst he'
    obtain ⟨rfl, rfl⟩ := g''.uniq g'
    exact hx hs'
   ·exact h j e' m'' l'' (by omega) he' hs' g''
  rcases h5 with ⟨hs, hn, _, g2⟩ | ⟨hs, hn, g2⟩ | ⟨hs, hn, g2⟩
  ·obtain ⟨r, r2, r3⟩ := nest_go g hl b d (i + 1) _ _ (by omega) g2
   refine ⟨r, I r ?_, by rw [hmore (fun h => by rw [hs] at h; exact absurd h (by decide))]; exact r3⟩
   simp only [if_neg (show ¬ e.f0.toList = [45] by rw [hs]; decide)]
   exact r2
  ·obtain ⟨r, r2, r3⟩ := nest_go g hl b d (i + 1) _ _ (by omega) g2
   refine ⟨r, I r ?_, by rw [hmore (fun h => by rw [hs] at h; exact absurd h (by decide))]; exact r3⟩
   simp only [if_neg (show ¬ e.f0.toList = [45] by rw [hs]; decide)]
   exact r2
  ·have hne : l' ≠ [] := List.ne_nil_of_mem hn
   have hlp : 0 < l'.length := List.length_pos_iff.2 hne
   have hw : wrap64 ((l'.length : Int) - 1) = (l'.length : Int) - 1 := wrap_small (by omega) (by omega)
   by_cases hlast : l'.getLast? = some e.f1
   ·obtain ⟨r, r2, r3⟩ := nest_go g hl b d (i + 1) _ _ (by omega) g2
    refine ⟨r, I r ?_, by rw [hmore (fun _ => hlast)]; exact r3⟩
    simp only [if_pos hs, hw, if_pos (show 0 ≤ (l'.length : Int) - 1 by omega), if_pos (show (l'.length : Int) - 1 < (l'.length : Int) by omega), if_pos ((last_rd hne).2 hlast)]
    exact r2
   ·have hlast' : ¬ rd l' ((l'.length : Int) - 1) = e.f1 := fun h => hlast ((last_rd hne).1 h)
    refine ⟨false, I false ?_, ⟨fun h => by simp at h, fun h => absurd (h.2 i e m' l' (Nat.le_refl _) h1 hs g') hlast⟩⟩
    simp only [if_pos hs, hw, if_pos (show 0 ≤ (l'.length : Int) - 1 by omega), if_pos (show (l'.length : Int) - 1 < (l'.length : Int) by omega), if_neg hlast']
    exact Ev.now _
theorem nestedI_ev (a0 : ByteArray) (hs : a0.size ≤ 1048576) : ∃ r, Ev (fun k => impl_AreNested.f k a0) r ∧ (r = true ↔ (toldOf a0).2.2 = true ∧ Nest (toldOf a0).1 0) := by
 obtain ⟨m, l, g, hm, hl⟩ := told_good a0
 obtain ⟨r, h2, h3⟩ := nest_go g (by omega) (toldOf a0).2.2 _ 0 0 [] (Nat.zero_add _) .nil
 refine ⟨r, ?_, h3⟩
 unfold impl_AreNested.f
 simp only [told_f a0 hs, Option.bind_some, hm, lives_told g (show (toldOf a0).1.length ≤ 1000000 by omega)]
 exact h2
def rq (a b : S31) : Bool := (decide (a.f2 < 0) || decide (a.f2 < b.f0)) || (decide (0 ≤ b.f2) && decide (b.f2 < a.f2))
theorem rq_iff {a b : S31} : rq a b = true ↔ a.f2 < 0 ∨ a.f2 < b.f0 ∨ (0 ≤ b.f2 ∧ b.f2 < a.f2) := by
 unfold rq
 simp only [Bool.or_eq_true, Bool.and_eq_true, decide_eq_true_eq, or_assoc]
def Quad (L : List S31) : Prop := ∀ (i j : Nat) (a b : S31), i < j → L[i]? = some a → L[j]? = some b → rq a b = true
theorem nest_snoc {o : List S55} {e : S55} {m : Nat} {l : List Int} (g : Good o m l) : Nest (o ++ [e]) 0 ↔ Nest o 0 ∧ (e.f0.toList = [45] → l.getLast? = some e.f1) := by
 constructor
 ·intro h
  refine ⟨fun j e' m' l' _ he hs g' => ?_, fun hs => ?_⟩
  ·have hj : j < o.length := (List.getElem?_eq_some_iff.1 he).1
   exact h j e' m' l' (Nat.zero_le _) (get_left he) hs (by rw [List.take_append_of_le_length (by omega)]; exact g')
  ·exact h o.length e m l (Nat.zero_le _) (get_end o e) hs (by rw [List.take_append_of_le_length (Nat.le_refl _), List.take_length]; exact g)
 ·rintro ⟨h, hk⟩ j e' m' l' _ he hs g'
  rcases get_snoc he with ⟨hj, he⟩ | ⟨rfl, rfl⟩
  ·rw [List.take_append_of_le_length (by omega)] at g'
   exact h j e' m' l' (Nat.zero_le _) he hs g'
  ·rw [List.take_append_of_le_length (Nat.le_refl _), List.take_length] at g'
   obtain ⟨rfl, rfl⟩ := g'.uniq g
   exact hk hs
theorem quad_set {L : List S31} {p : Nat} {a b : S31} (ha : L[p]? = some a) (h0 : b.f0 = a.f0) (h2 : b.f2 = a.f2) : Quad (L.set p b) ↔ Quad L := by
 have hp : p < L.length := (List.getElem?_eq_some_iff.1 ha).1
 have key : ∀ (i : Nat) (x : S31), (L.set p b)[i]? = some x → ∃ y, L[i]? = some y ∧ x.f0 = y.f0 ∧ x.f2 = y.f2 := by
  intro i x hx
  rw [List.getElem?_set] at hx
  by_cases hi : p = i
  ·subst hi
   rw [if_pos rfl, if_pos hp] at hx
   injection hx with hx
   subst hx
   exact ⟨a, ha, h0, h2⟩
  ·rw [if_neg hi] at hx
   exact ⟨x, hx, rfl, rfl⟩
 have key2 : ∀ (i : Nat) (y : S31), L[i]? = some y → ∃ x, (L.set p b)[i]? = some x ∧ x.f0 = y.f0 ∧ x.f2 = y.f2 := by
  intro i y hy
  rw [List.getElem?_set]
  by_cases hi : p = i
  ·subst hi
   rw [if_pos rfl, if_pos hp]
   rw [ha] at hy
   injection hy with hy
   subst hy
   exact ⟨b, rfl, h0, h2⟩
  ·rw [if_neg hi]
   exact ⟨y, hy, rfl, rfl⟩
 constructor
 ·intro h i j x y hij hx hy
  obtain ⟨x', hx', e1, e2⟩ := key2 i x hx
  obtain ⟨y', hy', e3, e4⟩ := key2 j y hy
  have := h i j x' y' hij hx' hy'
  rw [rq_iff] at this ⊢
  omega
 ·intro h i j x y hij hx hy
  obtain ⟨x', hx', e1, e2⟩ := key i x hx
  obtain ⟨y', hy', e3, e4⟩ := key j y hy
  have := h i j x' y' hij hx' hy'
  rw [rq_iff] at this ⊢
  omega
theorem last_is {l : List Int} {n : Int} (hs : l.Pairwise (· < ·)) (hn : n ∈ l) : l.getLast? = some n ↔ ∀ x ∈ l, x ≤ n := by
 constructor
 ·intro h x hx
  have hne : l ≠ [] := List.ne_nil_of_mem hn
  rw [List.getLast?_eq_some_getLast hne] at h
  injection h with h
  have hd : l.dropLast ++ [n] = l := by rw [← h]; exact List.dropLast_concat_getLast hne
  rw [← hd] at hs hx
  rw [List.pairwise_append] at hs
  rcases List.mem_append.1 hx with hx | hx
  ·have := hs.2.2 x hx n (by simp)
   omega
  ·simp at hx
   omega
 ·intro h
  have hne : l ≠ [] := List.ne_nil_of_mem hn
  rw [List.getLast?_eq_some_getLast hne]
  congr 1
  have h1 := h _ (List.getLast_mem hne)
  have hd : l.dropLast ++ [l.getLast hne] = l := List.dropLast_concat_getLast hne
  rw [← hd] at hs hn
  rw [List.pairwise_append] at hs
  rcases List.mem_append.1 hn with hn | hn
  ·have := hs.2.2 n hn (l.getLast hne) (by simp)
   omega
  ·simp at hn
   exact hn.symm
theorem nest_quad {o : List S55} {m : Nat} {l : List Int} (g : Good o m l) : Quad (lvs o) ↔ Nest o 0 := by
 induction g with
 | nil => exact ⟨fun _ j e m l _ h => by simp at h, fun _ i j a b _ h => by simp [lvs, lvgo] at h⟩
 | @make o m l s g hs ih =>
  rw [nest_snoc g, lvs_snoc, lvset1_43 hs]
  have hl := g.lvs_length
  have hc : (({ f0 := s, f1 := ((m + 1 : Nat) : Int) } : S55).f0.toList = [45] → l.getLast? = some ((m + 1 : Nat) : Int)) := fun h => by
   have h' : s.toList = [45] := h
   rw [hs] at h'
   exact absurd h' (by decide)
  rw [← ih]
  constructor
  ·intro h
   refine ⟨fun i j a b hij ha hb => ?_, hc⟩
   have h1 := (List.getElem?_eq_some_iff.1 ha).1
   have h2 := (List.getElem?_eq_some_iff.1 hb).1
   exact h i j a b hij (by rw [List.getElem?_append_left h1]; exact ha) (by rw [List.getElem?_append_left h2]; exact hb)
  ·rintro ⟨h, _⟩ i j a b hij ha hb
   by_cases hj : j < (lvs o).length
   ·rw [List.getElem?_append_left (by omega)] at ha
    rw [List.getElem?_append_left hj] at hb
    exact h i j a b hij ha hb
   ·rw [List.getElem?_append_right (by omega)] at hb
    have hj0 : j - (lvs o).length = 0 := by
     cases hk : j - (lvs o).length with
     | zero => rfl
     | succ k => rw [hk] at hb; simp at hb
    rw [hj0] at hb
    simp at hb
    rw [List.getElem?_append_left (by omega)] at ha
    have K := g.life i a ha
    have := K.dn
    rw [rq_iff, ← hb]
    dsimp only
    omega
 | @use o m l s n g hs hn ih =>
  have hc : (({ f0 := s, f1 := n } : S55).f0.toList = [45] → l.getLast? = some n) := fun h => by
   have h' : s.toList = [45] := h
   rw [hs] at h'
   exact absurd h' (by decide)
  have hr := g.range n hn
  have hl := g.lvs_length
  obtain ⟨L, hL⟩ : ∃ L, (lvs o)[(n - 1).toNat]? = some L := ⟨_, List.getElem?_eq_getElem (by omega)⟩
  have hrd := rd_get hL
  rw [show (((n - 1).toNat : Nat) : Int) = n - 1 by omega] at hrd
  have hq : Quad ((lvs o).set (n - 1).toNat (⟨L.f0, (o.length : Int), L.f2⟩ : S31)) ↔ Quad (lvs o) := quad_set hL rfl rfl
  rw [nest_snoc g, lvs_snoc, lvset1_46 hs, hrd, ← ih]
  exact ⟨fun h => ⟨hq.1 h, hc⟩, fun h => hq.2 h.1⟩
 | @kill o m l s n g hs hn ih =>
  have hr := g.range n hn
  have hl := g.lvs_length
  have hso := g.sorted
  obtain ⟨L, hL⟩ : ∃ L, (lvs o)[(n - 1).toNat]? = some L := ⟨_, List.getElem?_eq_getElem (by omega)⟩
  have hrd := rd_get hL
  rw [show (((n - 1).toNat : Nat) : Int) = n - 1 by omega] at hrd
  have K := g.life _ L hL
  have hlive : L.f2 < 0 := K.live.2 (by rw [show ((((n - 1).toNat) + 1 : Nat) : Int) = n by omega]; exact hn)
  have hp : (n - 1).toNat < (lvs o).length := (List.getElem?_eq_some_iff.1 hL).1
  rw [nest_snoc g, lvs_snoc, lvset1_45 hs, hrd, ← ih]
  have hself : ((lvs o).set (n - 1).toNat (⟨L.f0, L.f1, (o.length : Int)⟩ : S31))[(n - 1).toNat]? = some ⟨L.f0, L.f1, (o.length : Int)⟩ := by rw [List.getElem?_set, if_pos rfl, if_pos hp]
  have hoth : ∀ i, i ≠ (n - 1).toNat → ((lvs o).set (n - 1).toNat (⟨L.f0, L.f1, (o.length : Int)⟩ : S31))[i]? = (lvs o)[i]? := fun i hi => by rw [List.getElem?_set, if_neg (Ne.symm hi)]
  constructor
  ·intro h
   refine ⟨fun i j a b hij ha hb => ?_, fun _ => (last_is hso hn).2 fun x hx => ?_⟩
   ·by_cases hi : i = (n - 1).toNat
    ·subst hi
     rw [hL] at ha
     injection ha with ha
     subst ha
     rw [rq_iff]
     exact .inl hlive
    ·by_cases hj : j = (n - 1).toNat
     ·subst hj
      have h2 := h i _ a _ hij (by rw [hoth i hi]; exact ha) hself
      rw [hL] at hb
      injection hb with hb
      subst hb
      have := (g.life i a ha).dn
      rw [rq_iff] at h2 ⊢
      dsimp only at h2
      omega
     ·exact h i j a b hij (by rw [hoth i hi]; exact ha) (by rw [hoth j hj]; exact hb)
   ·apply Classical.byContradiction
    intro hc
    have hrx := g.range x hx
    obtain ⟨b, hb⟩ : ∃ b, (lvs o)[(x - 1).toNat]? = some b := ⟨_, List.getElem?_eq_getElem (by omega)⟩
    have Kb := g.life _ b hb
    have hbl : b.f2 < 0 := Kb.live.2 (by rw [show ((((x - 1).toNat) + 1 : Nat) : Int) = x by omega]; exact hx)
    have h2 := h (n - 1).toNat (x - 1).toNat _ b (by omega) hself (by rw [hoth _ (by omega)]; exact hb)
    have h3 := Kb.used
    have h4 := Kb.un
    rw [rq_iff] at h2
    dsimp only at h2
    omega
  ·rintro ⟨h, hlast⟩ i j a b hij ha hb
   have hle := (last_is hso hn).1 (hlast hs)
   by_cases hi : i = (n - 1).toNat
   ·subst hi
    rw [hself] at ha
    injection ha with ha
    subst ha
    rw [hoth j (by omega)] at hb
    have hjl := (List.getElem?_eq_some_iff.1 hb).1
    have Kb := g.life j b hb
    have hdead : ¬ b.f2 < 0 := fun hb2 => by
     have := hle _ (Kb.live.1 hb2)
     omega
    have := Kb.dn
    rw [rq_iff]
    dsimp only
    omega
   ·rw [hoth i hi] at ha
    by_cases hj : j = (n - 1).toNat
    ·subst hj
     rw [hself] at hb
     injection hb with hb
     subst hb
     have h2 := h i _ a L hij ha hL
     rw [rq_iff] at h2 ⊢
     dsimp only
     omega
    ·rw [hoth j hj] at hb
     exact h i j a b hij ha hb
def qrow (L : List S31) (i q : Nat) : Bool := ((L.drop (i + 1)).take q).all (rq (rd_T31 L (i : Int)))
def qall (L : List S31) (i : Nat) : Bool := (List.range i).all (fun k => qrow L k L.length)
theorem qrow_zero (L : List S31) (i : Nat) : qrow L i 0 = true := by simp [qrow]
theorem qrow_succ {L : List S31} {i q : Nat} (h : i + 1 + q < L.length) : qrow L i (q + 1) = (qrow L i q && rq (rd_T31 L (i : Int)) (rd_T31 L ((i + 1 + q : Nat) : Int))) := by
 unfold qrow
 have hq : q < (L.drop (i + 1)).length := by rw [List.length_drop]; omega
 rw [List.take_succ_eq_append_getElem hq, List.all_append, List.getElem_drop]
 have e : rd_T31 L ((i + 1 + q : Nat) : Int) = L[i + 1 + q] := rd_get (List.getElem?_eq_getElem h)
 rw [e]
 simp
theorem qrow_end {L : List S31} {i q : Nat} (h : L.length ≤ i + 1 + q) : qrow L i q = qrow L i L.length := by
 unfold qrow
 rw [List.take_of_length_le (by rw [List.length_drop]; omega), List.take_of_length_le (by rw [List.length_drop]; omega)]
theorem qall_succ (L : List S31) (i : Nat) : qall L (i + 1) = (qall L i && qrow L i L.length) := by
 unfold qall
 rw [List.range_succ, List.all_append]
 simp
theorem qall_quad (L : List S31) : qall L L.length = true ↔ Quad L := by
 unfold qall
 rw [List.all_eq_true]
 constructor
 ·intro h i j a b hij ha hb
  have hi := (List.getElem?_eq_some_iff.1 ha).1
  have hj := (List.getElem?_eq_some_iff.1 hb).1
  have h1 := h i (List.mem_range.2 hi)
  unfold qrow at h1
  rw [List.take_of_length_le (by rw [List.length_drop]; omega), List.all_eq_true, rd_get ha] at h1
  apply h1
  have : (L.drop (i + 1))[j - (i + 1)]? = some b := by rw [List.getElem?_drop, show i + 1 + (j - (i + 1)) = j by omega]; exact hb
  exact List.mem_of_getElem? this
 ·intro h i hi
  have hi' := List.mem_range.1 hi
  have ha : L[i]? = some L[i] := List.getElem?_eq_getElem hi'
  unfold qrow
  rw [List.take_of_length_le (by rw [List.length_drop]; omega), List.all_eq_true, rd_get ha]
  intro b hb
  obtain ⟨j, hj, e⟩ := List.getElem_of_mem hb
  have : (L.drop (i + 1))[j]? = some b := by rw [List.getElem?_eq_getElem hj, e]
  rw [List.getElem?_drop] at this
  exact h i (i + 1 + j) _ b (by omega) ha this
def cnta (L : List S31) (k : Int) (i : Nat) : Nat := (alv (L.take i) 0 k).length
theorem cnta_succ {L : List S31} {k : Int} {i : Nat} (h : i < L.length) : cnta L k (i + 1) = cnta L k i + if L[i].f0 ≤ k ∧ (L[i].f2 < 0 ∨ k < L[i].f2) then 1 else 0 := by
 unfold cnta
 rw [List.take_succ_eq_append_getElem h, alv_append]
 rw [List.length_append]
 congr 1
 rw [alv]
 split <;> simp [alv]
theorem cnta_end (L : List S31) (k : Int) : cnta L k L.length = (alv L 0 k).length := by unfold cnta; rw [List.take_length]
theorem in_alv {L : List S31} {k : Int} {i : Nat} (h : i < L.length) : ((i : Int) + 1) ∈ alv L 0 k ↔ L[i].f0 ≤ k ∧ (L[i].f2 < 0 ∨ k < L[i].f2) := by
 rw [mem_alv]
 constructor
 ·rintro ⟨j, M, h1, h2, h3⟩
  obtain rfl : j = i := by omega
  rw [List.getElem?_eq_getElem h] at h1
  injection h1 with h1
  rw [h1]
  exact h3
 ·intro h3
  exact ⟨i, L[i], List.getElem?_eq_getElem h, by omega, h3⟩
end Go.Proofs.YtndjbnkmhpbnpaaGreatDoor.Pr
namespace Go.Proofs.YtndjbnkmhpbnpaaGreatDoor.Pr
open Go.RowKit Go.Proofs.YtndjbnkmhpbnpaaGreatDoorW.PrintWords Go.Proofs.YtndjbnkmhpbnpaaGreatDoorW.PrintLast Go.Proofs.YtndjbnkmhpbnpaaGreatDoorW.PrintMore
attribute [local go_sem] max2_int min2_int max_two min_two max_three min_three max_four min_four   -- for this text's walks alone
set_option linter.unusedVariables false
set_option linter.unusedSimpArgs false
def impl_AliveAt.j0 : Nat → Int → List (S55) → Int → Bool → Option (List Int × Bool)
 | 0, _, _, _, _ => none
 | k + 1, x1, x6, x7, x26 => if x26 = true then (some (([] : List Int), false)) else ((impl_lives.f x6 x7).bind fun t683 => ((impl_alive.f k t683 x1).bind fun t686 => (some (t686, true))))
def impl_AliveAt.f (k : Nat) (a0 : ByteArray) (a1 : Int) : Option (List Int × Bool) := (impl_told.f a0).bind fun bt678 => (if bt678.2.2 = true then (if a1 < 0 then (impl_AliveAt.j0 k a1 bt678.1 bt678.2.1 true) else (impl_AliveAt.j0 k a1 bt678.1 bt678.2.1 (decide (a1 ≥ (bt678.1.length : Int))))) else (impl_AliveAt.j0 k a1 bt678.1 bt678.2.1 true))
set_option maxHeartbeats 8000000 in
set_option maxRecDepth 100000 in
theorem impl_AliveAt.calls (k : Nat) (a0 : ByteArray) (a1 : Int) (r1 : List Int) (r2 : Bool) (w : World) (hLd : LaidW w) (h : impl_AliveAt.f k a0 a1 = some (r1, r2)) :
  Calls Tryz.prog 42 #[.string a0, .int .i64 a1] w fun e w' => ∃ v0_ : Value, e = .returned (.tuple #[v0_, .bool r2]) ∧ Kd.R (Kd.int .i64) 3 w' w.heap.size (fun _ => True) v0_ r1 ∧ Below w.heap.size w w' := by
 have HB := Az.mk (Below.refl w.heap.size w)
 have HLd := Az.mk hLd
 clear hLd
 have H : ((impl_told.f a0).bind fun bt678 => (if bt678.2.2 = true then (if a1 < 0 then (impl_AliveAt.j0 k a1 bt678.1 bt678.2.1 true) else (impl_AliveAt.j0 k a1 bt678.1 bt678.2.1 (decide (a1 ≥ (bt678.1.length : Int))))) else (impl_AliveAt.j0 k a1 bt678.1 bt678.2.1 true))) = some (r1, r2) := h
 clear h
 replace H := Option.bind_eq_some_iff.mp H
 obtain ⟨⟨t678, t679, t680⟩, A30, H⟩ := H
 replace H : (if t680 = true then (if a1 < 0 then (impl_AliveAt.j0 k a1 t678 t679 true) else (impl_AliveAt.j0 k a1 t678 t679 (decide (a1 ≥ (t678.length : Int))))) else (impl_AliveAt.j0 k a1 t678 t679 true)) = some (r1, r2) := H
 have A3 := Az.mk A30
 clear A30
 have HC4 := Az.mk H
 clear H
 go_enter Tryz.func42, Tryz.ntmps42
 go_upto_region 2 with (first | ((with_reducible refine gate_callee (f := 50) rfl ?_); refine goesL_ (some 11) rfl rfl Tryz.func50 (by kernel_rfl) rfl #[.string a0] rfl (by (try simp only [List.map_toArray, List.map_cons, List.map_nil]); first | done | rfl | (simp only [List.length_drop, List.length_take]; rfl)) ?_; (with_reducible refine (impl_told.calls a0 t678 t679 t680 _ (HLd.out.below (by repeat first|exact HB.out|apply bA|apply bN|apply bD)) A3.out).mono ?_); rintro e w5 ⟨v681, rfl, ho0, hb⟩; refine ⟨_, rfl, ?_⟩; have n0_ := Az.mk (Kd.R_lower ho0 (bZ (by repeat first|exact HB.out|apply bA|apply bN|apply bD))); have n1_ := Az.mk (bS (by repeat first|exact HB.out|apply bA|apply bN|apply bD) hb); clear HB; have HO682 := n0_; have HB := n1_; clear n0_ n1_; (try clear hb); (try clear hb2); (try clear hk); (try clear hi); (try clear ho0)))
 (try simp only [Act.put, List.setIfInBounds_toArray, List.set_cons_zero, List.set_cons_succ])
 go_cut [26] (fun v26 wc => ∃ (kq : Nat) (x26_3 : Bool), v26 = .bool x26_3 ∧ Az (impl_AliveAt.j0 kq a1 t678 t679 x26_3 = some (r1, r2)) ∧ Az (kq ≤ k) ∧ Az (Kd.R k55 55 wc w.heap.size (fun _ => True) v681 t678) ∧ Az (Below w.heap.size w wc))
 case first =>
  have H := HC4.out
  clear HC4
  by_cases c6 : t680 = true
  ·subst c6
   have H1 : (if a1 < 0 then (impl_AliveAt.j0 k a1 t678 t679 true) else (impl_AliveAt.j0 k a1 t678 t679 (decide (a1 ≥ (t678.length : Int))))) = some (r1, r2) := by rw [if_pos rfl] at H; exact H
   clear H
   have H := H1
   clear H1
   by_cases c7 : a1 < 0
   ·rw [if_pos c7] at H
    have c7b0 : decide (a1 < 0) = true := decide_eq_true c7
    clear c7
    (first | rw [c7b0] | (simp only [i64_w, i32_w]; rw [c7b0]) | skip)
    have H' := Az.mk H
    clear H
    go_wp2
    go_meet
    case rel => exact ⟨_, (true), (by first | rfl | (simp; done) | (simp [*]; done)), H', ⟨by first | omega | exact Nat.le_refl _⟩, ⟨by (with_reducible repeat first|apply Kd.Ra|apply Kd.Rn|apply Kd.Rw); exact HO682.out⟩, ⟨by repeat (first | (with_reducible first|exact HB.out|apply bA|apply bN|apply bD) | exact HB.out)⟩⟩
   ·rw [if_neg c7] at H
    have c7b0 : decide (a1 < 0) = false := decide_eq_false c7
    clear c7
    (first | rw [c7b0] | (simp only [i64_w, i32_w]; rw [c7b0]) | skip)
    have H' := Az.mk H
    clear H
    obtain ⟨Ao8, co8, eo8⟩ := Kd.R_slice HO682.out
    subst eo8
    go_wp2
    go_meet
    case rel => exact ⟨_, (decide (a1 ≥ (t678.length : Int))), (by first | rfl | (simp; done) | (simp [*]; done)), H', ⟨by first | omega | exact Nat.le_refl _⟩, ⟨by (with_reducible repeat first|apply Kd.Ra|apply Kd.Rn|apply Kd.Rw); exact HO682.out⟩, ⟨by repeat (first | (with_reducible first|exact HB.out|apply bA|apply bN|apply bD) | exact HB.out)⟩⟩
  ·replace c6 := Bool.eq_false_iff.mpr c6
   subst c6
   have H1 : (impl_AliveAt.j0 k a1 t678 t679 true) = some (r1, r2) := by rw [if_neg (show ¬ (false = true) by decide)] at H; exact H
   clear H
   have H := H1
   clear H1
   have H' := Az.mk H
   clear H
   go_wp2
   go_meet
   case rel => exact ⟨_, (true), (by first | rfl | (simp; done) | (simp [*]; done)), H', ⟨by first | omega | exact Nat.le_refl _⟩, ⟨by (with_reducible repeat first|apply Kd.Ra|apply Kd.Rn|apply Kd.Rw); exact HO682.out⟩, ⟨by repeat (first | (with_reducible first|exact HB.out|apply bA|apply bN|apply bD) | exact HB.out)⟩⟩
 case rest =>
  clear HC4
  try clear p2
  try clear c4
  try clear c5
  try clear c6
  try clear c7
  try clear c7b0
  obtain ⟨kq, x26_3, rfl, HA, HJ3, HO_6, HB⟩ := hcut
  cases kq with
  | zero => exact absurd HA.out (by simp [impl_AliveAt.j0])
  | succ kj3 =>
   have H := HA.out
   clear HA
   simp only [impl_AliveAt.j0] at H
   by_cases c9 : x26_3 = true
   ·subst c9
    have H1 : (some (([] : List Int), false)) = some (r1, r2) := by rw [if_pos rfl] at H; exact H
    clear H
    have H := H1
    clear H1
    simp only [Option.some.injEq, Prod.mk.injEq] at H
    obtain ⟨rfl, rfl⟩ := H
    go_wp2
    go_ret2
    exact ⟨_, by first | rfl | (simp [errW_none, errW_some] <;> rfl) | (simp [*, errW_none, errW_some] <;> rfl), by first | exact Kd.R_nil _ _ _ _ _ | exact Kd.N_nil _ _ _ _ _ | exact Kd.V_nil _ _ _ _ _ | exact Kd.Q_nil _ _ _ _ _ | exact Kd.S_nil _ _ _ _ _, by repeat (first | (with_reducible first|exact HB.out|apply bA|apply bN|apply bD) | exact HB.out)⟩
   ·replace c9 := Bool.eq_false_iff.mpr c9
    subst c9
    have H1 : ((impl_lives.f t678 t679).bind fun t683 => ((impl_alive.f kj3 t683 a1).bind fun t686 => (some (t686, true)))) = some (r1, r2) := by rw [if_neg (show ¬ (false = true) by decide)] at H; exact H
    clear H
    have H := H1
    clear H1
    replace H := Option.bind_eq_some_iff.mp H
    obtain ⟨t683, A100, H⟩ := H
    replace H : ((impl_alive.f kj3 t683 a1).bind fun t686 => (some (t686, true))) = some (r1, r2) := H
    have A10 := Az.mk A100
    clear A100
    replace H := Option.bind_eq_some_iff.mp H
    obtain ⟨t686, A110, H⟩ := H
    replace H : (some (t686, true)) = some (r1, r2) := H
    have A11 := Az.mk A110
    clear A110
    simp only [Option.some.injEq, Prod.mk.injEq] at H
    obtain ⟨rfl, rfl⟩ := H
    obtain ⟨Ao12, co12, eo12⟩ := Kd.R_slice HO_6.out
    subst eo12
    go_wp2_with (first | ((with_reducible refine gate_callee (f := 51) rfl ?_); refine goesL_ (some 29) rfl rfl Tryz.func51 (by kernel_rfl) rfl #[.slice Ao12 t678.length co12, .int .i64 t679] rfl (by (try simp only [List.map_toArray, List.map_cons, List.map_nil]); first | done | rfl | (simp only [List.length_drop, List.length_take]; rfl)) ?_; (with_reducible refine (impl_lives.calls _ _ t678 t679 t683 _ ?side1 ?side2 A10.out).mono ?_); (case side1 => repeat (first | exact (Kd.R_reads' HO_6.out).2.2 | (with_reducible refine Kd.C_alloc ?_ _) | (with_reducible refine Kd.C_drewN ?_ _) | (with_reducible refine Kd.C_drew ?_))); (case side2 => exact (Kd.R_reads' HO_6.out).2.1); rintro e w13 ⟨v684, rfl, ho0, hb⟩; refine ⟨_, rfl, ?_⟩; have n0_ := Az.mk (Kd.Rb (by (with_reducible repeat first|apply Kd.Ra|apply Kd.Rn|apply Kd.Rw); exact HO_6.out) hb); have n1_ := Az.mk (Kd.R_lower ho0 (bZ (by repeat first|exact HB.out|apply bA|apply bN|apply bD))); have n2_ := Az.mk (bS (by repeat first|exact HB.out|apply bA|apply bN|apply bD) hb); clear HO_6; clear HB; have HO_6 := n0_; have HO685 := n1_; have HB := n2_; clear n0_ n1_ n2_; (try clear hb); (try clear hb2); (try clear hk); (try clear hi); (try clear ho0); obtain ⟨Ao14, co14, eo14⟩ := Kd.R_slice HO685.out; subst eo14) | ((with_reducible refine gate_callee (f := 57) rfl ?_); refine goesL_ (some 31) rfl rfl Tryz.func57 (by kernel_rfl) rfl #[.slice Ao14 t683.length co14, .int .i64 a1] rfl (by (try simp only [List.map_toArray, List.map_cons, List.map_nil]); first | done | rfl | (simp only [List.length_drop, List.length_take]; rfl)) ?_; (with_reducible refine (impl_alive.calls kj3 _ _ t683 a1 t686 _ ?side1 ?side2 A11.out).mono ?_); (case side1 => repeat (first | exact (Kd.R_reads' HO685.out).2.2 | (with_reducible refine Kd.C_alloc ?_ _) | (with_reducible refine Kd.C_drewN ?_ _) | (with_reducible refine Kd.C_drew ?_))); (case side2 => exact (Kd.R_reads' HO685.out).2.1); rintro e w15 ⟨v687, rfl, ho0, hb⟩; refine ⟨_, rfl, ?_⟩; have n0_ := Az.mk (Kd.Rb (by (with_reducible repeat first|apply Kd.Ra|apply Kd.Rn|apply Kd.Rw); exact HO_6.out) hb); have n1_ := Az.mk (Kd.Rb (by (with_reducible repeat first|apply Kd.Ra|apply Kd.Rn|apply Kd.Rw); exact HO685.out) hb); have n2_ := Az.mk (Kd.R_lower ho0 (bZ (by repeat first|exact HB.out|apply bA|apply bN|apply bD))); have n3_ := Az.mk (bS (by repeat first|exact HB.out|apply bA|apply bN|apply bD) hb); clear HO_6; clear HO685; clear HB; have HO_6 := n0_; have HO685 := n1_; have HO688 := n2_; have HB := n3_; clear n0_ n1_ n2_ n3_; (try clear hb); (try clear hb2); (try clear hk); (try clear hi); (try clear ho0)))
    go_ret2
    exact ⟨_, by first | rfl | (simp [errW_none, errW_some] <;> rfl) | (simp [*, errW_none, errW_some] <;> rfl), by (with_reducible repeat first|apply Kd.Ra|apply Kd.Rn|apply Kd.Rw); exact HO688.out, by repeat (first | (with_reducible first|exact HB.out|apply bA|apply bN|apply bD) | exact HB.out)⟩
end Go.Proofs.YtndjbnkmhpbnpaaGreatDoor.Pr
namespace Go.Proofs.YtndjbnkmhpbnpaaGreatDoor.Pr
open Go.RowKit Go.Proofs.YtndjbnkmhpbnpaaGreatDoorW.PrintWords Go.Proofs.YtndjbnkmhpbnpaaGreatDoorW.PrintLast Go.Proofs.YtndjbnkmhpbnpaaGreatDoorW.PrintMore
def aliveAtOf (a0 : ByteArray) (k : Int) : List Int × Bool := if (toldOf a0).2.2 = true ∧ 0 ≤ k ∧ k < ((toldOf a0).1.length : Int) then (alv (lvs (toldOf a0).1) 0 k, true) else ([], false)
theorem aliveAtOf_len (a0 : ByteArray) (a1 : Int) : (aliveAtOf a0 a1).1.length ≤ 600 := by
 obtain ⟨m, l, g, hm, hl⟩ := told_good a0
 have h1 := g.lvs_length
 have h2 := g.made
 have h3 := alv_length a1 (lvs (toldOf a0).1) 0
 unfold aliveAtOf
 split
 ·dsimp only; omega
 ·simp
theorem aliveAtS_ev (a0 : ByteArray) (a1 : Int) (hs : a0.size ≤ 1048576) : Ev (fun k => spec_AliveAt.f k a0 a1) (aliveAtOf a0 a1) := by
 obtain ⟨m, l, g, hm, hl⟩ := told_good a0
 have h1 := g.lvs_length
 have h2 := g.made
 have no : ∀ (x : Int) (ys : List S63), Ev (fun k => spec_AliveAt.j0 k x ys true) ([], false) := fun x ys => by
  refine Ev.step (fun k => spec_AliveAt.j0.eq_2 (k := k) ..) ?_
  simp only [if_true]
  exact Ev.now _
 have yes : Ev (fun k => spec_AliveAt.j0 k a1 ((toldOf a0).1.map conv) false) (alv (lvs (toldOf a0).1) 0 a1, true) := by
  refine Ev.step (fun k => spec_AliveAt.j0.eq_2 (k := k) ..) ?_
  simp only [Bool.false_eq_true, if_false]
  exact Ev.bind (lives_ev g (by omega)) (Ev.bind (l7Alive_ev _ a1 (by omega)) (Ev.now _))
 have eno : ¬ ((toldOf a0).2.2 = true ∧ 0 ≤ a1 ∧ a1 < ((toldOf a0).1.length : Int)) → aliveAtOf a0 a1 = ([], false) := fun h => by unfold aliveAtOf; rw [if_neg h]
 unfold spec_AliveAt.f
 refine Ev.bind (l7Read_ev a0 hs) ?_
 dsimp only
 rw [List.length_map, wrap_small (by omega) (by omega)]
 unfold spec_l1In.f
 by_cases hb : (toldOf a0).2.2 = true
 ·simp only [if_pos hb]
  by_cases h0 : 0 ≤ a1
  ·simp only [if_pos (show a1 ≥ 0 from h0), Option.bind_some]
   by_cases hk : a1 < ((toldOf a0).1.length : Int)
   ·rw [show aliveAtOf a0 a1 = _ from if_pos ⟨hb, h0, hk⟩]
    simp only [decide_eq_true (show a1 ≤ ((toldOf a0).1.length : Int) - 1 by omega), Bool.not_true]
    exact yes
   ·rw [eno (fun h => hk h.2.2)]
    simp only [decide_eq_false (show ¬ a1 ≤ ((toldOf a0).1.length : Int) - 1 by omega), Bool.not_false]
    exact no _ _
  ·rw [eno (fun h => h0 h.2.1)]
   simp only [if_neg (show ¬ a1 ≥ 0 from h0), Option.bind_some, Bool.not_false]
   exact no _ _
 ·rw [eno (fun h => hb h.1)]
  simp only [if_neg hb]
  exact no _ _
theorem aliveAtI_ev (a0 : ByteArray) (a1 : Int) (hs : a0.size ≤ 1048576) : Ev (fun k => impl_AliveAt.f k a0 a1) (aliveAtOf a0 a1) := by
 obtain ⟨m, l, g, hm, hl⟩ := told_good a0
 have h1 := g.lvs_length
 have h2 := g.made
 have no : ∀ (x : Int) (ys : List S55) (z : Int), Ev (fun k => impl_AliveAt.j0 k x ys z true) ([], false) := fun x ys z => by
  refine Ev.step (fun k => impl_AliveAt.j0.eq_2 (k := k) ..) ?_
  simp only [if_true]
  exact Ev.now _
 have yes : Ev (fun k => impl_AliveAt.j0 k a1 (toldOf a0).1 (m : Int) false) (alv (lvs (toldOf a0).1) 0 a1, true) := by
  refine Ev.step (fun k => impl_AliveAt.j0.eq_2 (k := k) ..) ?_
  simp only [Bool.false_eq_true, if_false, lives_told g (by omega), Option.bind_some]
  exact Ev.bind (alive_ev _ a1 (by omega)) (Ev.now _)
 unfold impl_AliveAt.f aliveAtOf
 simp only [told_f a0 hs, Option.bind_some, hm]
 by_cases hb : (toldOf a0).2.2 = true
 ·simp only [if_pos hb]
  by_cases h0 : 0 ≤ a1
  ·simp only [if_neg (show ¬ a1 < 0 by omega)]
   by_cases hk : a1 < ((toldOf a0).1.length : Int)
   ·rw [if_pos ⟨hb, h0, hk⟩]
    simp only [decide_eq_false (show ¬ a1 ≥ ((toldOf a0).1.length : Int) by omega)]
    exact yes
   ·rw [if_neg (fun h => hk h.2.2)]
    simp only [decide_eq_true (show a1 ≥ ((toldOf a0).1.length : Int) by omega)]
    exact no _ _ _
  ·rw [if_neg (fun h => h0 h.2.1)]
   simp only [if_pos (show a1 < 0 by omega)]
   exact no _ _ _
 ·rw [if_neg (fun h => hb h.1)]
  simp only [if_neg hb]
  exact no _ _ _
end Go.Proofs.YtndjbnkmhpbnpaaGreatDoor.Pr
