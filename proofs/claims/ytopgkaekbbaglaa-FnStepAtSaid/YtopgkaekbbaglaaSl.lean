/- The contracts of the reference's reader of a step and of a whole program. -/
import Derived.Test.YtopgkaekbbaglaaSe
import Derived.Test.YtopgkaekbbaglaaSf
import Derived.Test.YtopgkaekbbaglaaSg
import Derived.Test.YtopgkaekbbaglaaSh
import Derived.Test.YtopgkaekbbaglaaSi
import Derived.Test.YtopgkaekbbaglaaSj
import Derived.Test.YtopgkaekbbaglaaSk
namespace Go.Proofs.Ytopgkaekbbaglaa
open Go.RowKit Pl

theorem sstep_all (p : ByteArray) (hp : p.size ≤ 80) : ∀ d n, p.size - n ≤ d → SStepC p n := by
  intro d
  induction d with
  | zero => intro n hd w b ar s hr hsn hn; omega
  | succ d ih =>
    intro n hd w b ar s hr hsn hn har hdep
    have hB : ∀ m, n < m → SBodyC p m := fun m hm => sbody_any p m hp (fun m' hm' => ih m' (by omega))
    show SStepP p w b ar s
    by_cases c0 : bAt p s.at_ = 43
    · exact sstep_var p n hp hB w b ar s hr hsn hn har hdep (.inl c0)
    by_cases c1 : bAt p s.at_ = 45
    · exact sstep_var p n hp hB w b ar s hr hsn hn har hdep (.inr (.inl c1))
    by_cases c2 : bAt p s.at_ = 46
    · exact sstep_var p n hp hB w b ar s hr hsn hn har hdep (.inr (.inr (.inl c2)))
    by_cases c3 : bAt p s.at_ = 126
    · exact sstep_var p n hp hB w b ar s hr hsn hn har hdep (.inr (.inr (.inr c3)))
    by_cases c4 : bAt p s.at_ = 61
    · exact sstep_two p n hp hB w b ar s hr hsn hn har hdep c4
    by_cases c5 : bAt p s.at_ = 94
    · exact sstep_one p n hp hB w b ar s hr hsn hn har hdep (.inl c5)
    by_cases c6 : bAt p s.at_ = 33
    · exact sstep_one p n hp hB w b ar s hr hsn hn har hdep (.inr c6)
    by_cases c7 : bAt p s.at_ = 63
    · exact sstep_quest p n hp hB w b ar s hr hsn hn har hdep c7
    by_cases c8 : bAt p s.at_ = 42
    · exact sstep_star p n hp hB w b ar s hr hsn hn har hdep c8
    by_cases c9 : bAt p s.at_ = 123
    · exact sstep_scope p n hp hB w b ar s hr hsn hn har hdep c9
    exact sstep_no p n hp hB w b ar s hr hsn hn har hdep ⟨c0, c1, c2, c3, c4, c5, c6, c7, c8, c9⟩
end Go.Proofs.Ytopgkaekbbaglaa
