/- The depth of a step: the program's function, walked over the trees that its reader makes. -/
import Derived.Test.YtopgkaekbbaglaaPlaind
import Derived.Test.YtopgkaekbbaglaaIn
import Derived.Laws.OwnMore
namespace Go.Proofs.Ytopgkaekbbaglaa
open Go.RowKit Pl

/-- the cell of a row of the call's own -/
theorem Own.at {w : World} {ok : Nat → Prop} {e : TypeId} {A : Option Addr} {n c : Nat} {xs : List Value} (h : Own w ok e (.slice A n c) xs) (hn : n = xs.length) {k : Nat} (hk : k < n) :
    ∃ g, A = some ⟨g, 0, none⟩ ∧ w.cell? ⟨g, k, none⟩ = xs[k]? := by
  subst hn
  rcases h.row.2 with ⟨hv, hn⟩ | ⟨g, cap, cur, hv, _⟩
  · omega
  · injection hv with h1 h2 h3
    subst h1
    have hr := h.row
    exact ⟨g, rfl, hr.cellAt k (by omega)⟩
end Go.Proofs.Ytopgkaekbbaglaa
