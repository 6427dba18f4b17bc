/- What the listed variables hold, as the calls of this seat want it, and that a call which leaves what was there keeps it. -/
import Derived.Test.YtmhagppajcidcaaDoorShelf
import Derived.Below
namespace Go.Proofs.YtmhagppajcidcaaDoor
open Go.RowKit

/-- the table of powers -/
structure LaidT (w : World) : Prop where
  tab : Lib.TabIs Tryd.prog w "internal/strconv.uint64pow10" .u64 Lib.pow10Tab
/-- the table of powers, the two errors of strconv, and the cell of internal/bytealg.MaxLen -/
structure LaidW (w : World) : Prop extends LaidT w where
  syn : ∃ tp p, w.var? Tryd.prog "strconv.ErrSyntax" = some #[.iface tp p]
  ran : ∃ tp p, w.var? Tryd.prog "strconv.ErrRange" = some #[.iface tp p]
  mlen : ∃ m, w.cell? ⟨(Tryd.laysM146_ren.g 1), 0, none⟩ = some (.int .i64 m)
theorem var_below {P : Program} {n : String} {w w' : World} {cs : Array Value} (h : w.var? P n = some cs) (hb : Below w.heap.size w w') : w'.var? P n = some cs := by
  unfold World.var? at h ⊢
  cases hg : P.globalNamed n with
  | none => rw [hg] at h; cases h
  | some g =>
    rw [hg] at h
    simp only [Option.bind_some] at h ⊢
    have hlt : g < w.heap.size := by
      by_cases hlt : g < w.heap.size
      · exact hlt
      · rw [Array.getElem?_eq_none (by omega)] at h
        cases h
    rw [hb.block g hlt]
    exact h
theorem LaidT.below {w w' : World} (h : LaidT w) (hb : Below w.heap.size w w') : LaidT w' := ⟨var_below h.tab hb⟩
theorem LaidW.below {w w' : World} (h : LaidW w) (hb : Below w.heap.size w w') : LaidW w' := by
  obtain ⟨tp, p, hs⟩ := h.syn
  obtain ⟨tq, q, hr⟩ := h.ran
  obtain ⟨m, hm⟩ := h.mlen
  exact ⟨h.toLaidT.below hb, ⟨tp, p, var_below hs hb⟩, ⟨tq, q, var_below hr hb⟩, ⟨m, (World.cell?_of_block (hb.block _ (World.block_lt_of_cell? w _ hm))).trans hm⟩⟩
end Go.Proofs.YtmhagppajcidcaaDoor
