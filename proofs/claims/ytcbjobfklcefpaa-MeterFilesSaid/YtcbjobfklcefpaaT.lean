import Derived.Test.YtcbjobfklcefpaaGwit
import Derived.Test.YtcbjobfklcefpaaProg
set_option linter.unusedVariables false
set_option linter.unusedSimpArgs false
set_option maxRecDepth 100000
set_option maxHeartbeats 0
namespace Go.Proofs
open Gw Go.RowKit
def dS5 : Deep (List Int) where
  sz := 1
  rel := fun h x c => ∃ s1 : Value, c = [s1] ∧ Rd fU8 h s1 x
  len := fun h x c r => by obtain ⟨s1, rfl, f1⟩ := r; rfl
  one := fun h x c r => by obtain ⟨s1, rfl, f1⟩ := r; exact oc1 f1.sl.one oc0
  mono := fun h h' x c hs r => by obtain ⟨s1, rfl, f1⟩ := r; exact ⟨s1, rfl, f1.mono hs⟩
  pos := by decide
  ag := false
  one' := fun _ => rfl
end Go.Proofs
