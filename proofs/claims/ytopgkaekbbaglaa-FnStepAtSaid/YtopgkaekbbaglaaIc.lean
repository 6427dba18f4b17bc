/- Contracts of the library's search for one byte: strings.IndexByte, strings.Contains of one letter. -/
import Derived.Test.YtopgkaekbbaglaaIb
import Derived.Lib.Bytealg
namespace Go.Proofs.Ytopgkaekbbaglaa
open Go.RowKit Pl

theorem call81 (s : ByteArray) (c : Int) (w : World) : (callFunc 81 #[.string s, .int .u8 c]).run Try.prog w = .ok (.value (.int .i64 (Lib.indexByte s.data.toList c.toNat.toUInt8))) w := by
  rw [run_callFunc_extern Try.func81 (by kernel_rfl) (by kernel_rfl) (by kernel_rfl) (e := Extern.BytealgIndexByte.indexByte) (by kernel_rfl), Lib.run_indexByteString]
  rfl

theorem indexByte_has (l : List UInt8) (c : UInt8) : decide (0 ≤ Lib.indexByte l c) = l.contains c := by
  induction l with
  | nil => rfl
  | cons b l ih =>
    unfold Lib.indexByte
    have hg := Lib.indexByte_ge l c
    by_cases hb : b = c
    · subst hb; simp
    · have hb' : (b == c) = false := by simpa using hb
      have hc : (c == b) = false := by simpa using fun e => hb e.symm
      rw [hb']
      simp only [Bool.false_eq_true, if_false]
      rw [List.contains_cons, hc, Bool.false_or, ← ih]
      by_cases hm : Lib.indexByte l c = -1
      · simp [hm]
      · have h1 : (Lib.indexByte l c == -1) = false := by simpa using hm
        rw [h1]
        simp only [Bool.false_eq_true, if_false]
        have e1 : decide (0 ≤ Lib.indexByte l c + 1) = true := by simp; omega
        have e2 : decide (0 ≤ Lib.indexByte l c) = true := by simp; omega
        rw [e1, e2]

set_option maxHeartbeats 400000 in
theorem indexByte_any (s : ByteArray) (c : Int) (w : World) :
    Calls Try.prog 76 #[.string s, .int .u8 c] w fun e w' => e = .returned (.int .i64 (Lib.indexByte s.data.toList c.toNat.toUInt8)) ∧ w = w' := by
  have hx := call81
  go_enter Try.func76, Try.ntmps76
  go_wp2
  go_ret
  exact ⟨rfl, rfl⟩

set_option maxHeartbeats 400000 in
theorem contains_same (s : ByteArray) (w : World) (hv : s.size = 1) :
    Calls Try.prog 46 #[.string s, .string s] w fun e w' => e = .returned (.bool true) ∧ w = w' := by
  have h1 : ((s.size : Int) == 0) = false := by simp [hv]
  have h2 : ((s.size : Int) == 1) = true := by simp [hv]
  go_enter Try.func46, Try.ntmps46
  go_wp2
  go_ret
  exact ⟨rfl, rfl⟩

set_option maxHeartbeats 400000 in
theorem contains_other (s v : ByteArray) (w : World) (hv : v.size = 1) (hne : (v.toList == s.toList) = false) :
    Calls Try.prog 46 #[.string s, .string v] w fun e w' => e = .returned (.bool (has s (bAt v 0))) ∧ w = w' := by
  have hx := call81
  have h1 : ((v.size : Int) == 0) = false := by simp [hv]
  have h2 : ((v.size : Int) == 1) = true := by simp [hv]
  have h3 : 0 < v.size := by omega
  have hE : decide ((0 : Int) ≤ Lib.indexByte s.data.toList (v[0]'h3)) = has s (bAt v 0) := by rw [indexByte_has, bAt_get h3]; rfl
  have HE := Lib.hid hE
  clear hE
  go_enter Try.func46, Try.ntmps46
  go_wp2
  go_ret
  exact ⟨congrArg (fun b => Ending.returned (.bool b)) HE.out, rfl⟩

/-- strings.Contains of one letter -/
theorem contains_any (s v : ByteArray) (w : World) (hv : v.size = 1) :
    Calls Try.prog 46 #[.string s, .string v] w fun e w' => e = .returned (.bool (has s (bAt v 0))) ∧ w = w' := by
  by_cases h : (v.toList == s.toList) = true
  · have e : v = s := by
      have h' := eq_of_beq h
      rw [Lib.toList_data, Lib.toList_data] at h'
      exact ByteArray.ext (Array.ext' h')
    subst e
    have hh : has v (bAt v 0) = true := by
      have h0 : 0 < v.size := by omega
      rw [← bAt_get h0]
      unfold has
      rw [List.contains_iff_mem]
      exact Array.getElem_mem_toList (xs := v.data) h0
    rw [hh]
    exact contains_same v w hv
  · exact contains_other s v w hv (by simpa using h)
end Go.Proofs.Ytopgkaekbbaglaa
