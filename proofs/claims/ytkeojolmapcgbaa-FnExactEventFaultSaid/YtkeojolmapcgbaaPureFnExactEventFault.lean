/- WHAT IS PROVED: the law FnExactEventFault answers true for every event whose list of legs has a length that fits a slice: the pure part. -/
import Derived.Test.YtkeojolmapcgbaaPureEvA
import Derived.Test.YtkeojolmapcgbaaPEvx9
namespace Go.Proofs.Ytkeojolmapcgbaa.Pure
open Go.RowKit Go.Proofs.Ytkeojolmapcgbaa.PEv Go.Proofs.YtkeojolmapcgbaaW.PrintWords Go.Proofs.YtkeojolmapcgbaaW.PrintLast Go.Proofs.Ytkeojolmapcgbaa.Plain

theorem FnExactEventFault (v : Bool) (id : Int) (l : List S186) (o : Int) (h : True ∧ (((Lit.int .i64 id).wf = true ∧ (l.length ≤ maxLen ∧ ∀ a ∈ l, (Lit.int .i64 a.f0).wf = true ∧ (Lit.int .i64 a.f1).wf = true ∧ (Lit.int .i64 a.f2).wf = true ∧ (Lit.int .i64 a.f3).wf = true)) ∧ (Lit.int .i64 o).wf = true)) : ∃ k, laws_FnExactEventFault.f k v id l o = some true := by
  have hl : l.length ≤ 9223372036854775807 := by have := h.2.1.2.1; unfold maxLen at this; omega
  refine Ev.rounds ?_
  unfold laws_FnExactEventFault.f
  obtain ⟨t, ht, hor⟩ := sz_event v id l o hl 1048576 (by omega) (by omega)
  refine Ev.bind ht ?_
  by_cases hneg : t < 0
  · simp only [if_pos hneg]
    exact Ev.now _
  · simp only [if_neg hneg]
    have h1 : (l.length : Int) ≤ 1048576 := by
      rcases hor with h | h
      · omega
      · exact h.2.2
    have h1' : ((l.map conv).length : Int) ≤ 1048576 := by rw [List.length_map]; exact h1
    refine Ev.bind (to_event v id l o h1) (Ev.bind (spec_ef _ _ _ _) (Ev.bind (to_event v id l o h1) (Ev.bind (impl_ef _ _ _ _) ?_)))
    simp only [if_true]
    refine Ev.bind (to_event v id l o h1) (Ev.bind (eq_event _ _ _ _ h1') ?_)
    simp only [if_true]
    exact Ev.now _

end Go.Proofs.Ytkeojolmapcgbaa.Pure
