import Derived.Test.YtjcagpcpbfmldaaX9
/- As many accounts as there are: carried out. -/
set_option linter.unusedVariables false
set_option maxRecDepth 100000
set_option maxHeartbeats 4000000
namespace Go.Proofs
open Gw Go.RowKit
theorem many_nil : g_tarnlaw13_HeapMany 4000 [] [] = some true := by kernel_rfl
theorem many_law (l : List TNode) (m : List Ttarnlaw13_Act) : g_tarnlaw13_HeapMany 4000 l m = some true := by
  have e : ∀ k : List Ttarnlaw13_Act, decide ((((List.length k : Nat) : Int)) ≥ 0) = true := fun k => decide_eq_true (by omega)
  have h := many_nil
  unfold g_tarnlaw13_HeapMany at h ⊢
  rw [e] at h ⊢
  exact h
end Go.Proofs
