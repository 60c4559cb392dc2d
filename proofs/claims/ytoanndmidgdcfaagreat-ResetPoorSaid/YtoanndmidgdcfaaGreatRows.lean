/-
  No cell of these rows narrows 'for every input' (looked for: loops, veiled, ifaces, maps, wideKeys, modest, calm, conditions, laid).
  DERIVED. THE GIVEN ROWS OF THIS SEAT. 6 by the template 'for every input the law returns true; each argument reads behind the call as it read before'; 0 by the template 'total and deterministic' (their statements: YtoanndmidgdcfaaGreatTotals.lean).
  GIVEN WITH THE SEED: the statements are not yours to turn. If you find one false, say at which input.
  Laid BY PROGRAM, IN A SANDBOX (cutbox-rows.mjs): the forced cells as the released guide's own fill.sh prints them over the translation d92daf4df57ac28c… (all of the seat's roots in one cut). By AI agents, Wed Nov 11 2026. No macro, syntax, notation, axiom, sorry.
-/
import Derived.Test.YtoanndmidgdcfaaGreatChecked
import GoSem.Claim
import GoSem.ClaimJoined
import GoSem.ClaimMapViews
import Derived.JoinedTies
import Derived.KernelRfl
namespace Go.Proofs.YtoanndmidgdcfaaGreat
/- THE CELL 'sum', in the pinned program and in every row, IS THE sha256 OF THE DUMP (.gsa) THAT YtoanndmidgdcfaaGreatProg.lean LOADS. Nothing in Lean hashes anything: it is a label: what it is worth is what the hold of that sum in a sandbox is worth. -/
noncomputable def Tryz.pinned : Pinned := { name := "ytoanndmidgdcfaagreat", sum := "d92daf4df57ac28c614f264546de686379fb97930d46f611c33744dca0f9ea05", checked := Tryz.checked }
namespace Rows
def none {H : Type} : Left H := { results := [], args := [] }

/-- 'tarnlaw22.RepairPairs': WHATEVER THE INPUT: true; the input reads as it did. -/
def repairPairsSpec : ChangeSpec := { name := "repairPairs", fn := fun _ => fun
  | [d] => { results := [.lit (.bool true)], args := [d] }
  | _ => none }
def repairPairsRow : OpenClaim := { program := "ytoanndmidgdcfaagreat", sum := "d92daf4df57ac28c614f264546de686379fb97930d46f611c33744dca0f9ea05", func := "tarn/tarnlaw22.RepairPairs", spec := "repairPairs", inPlace := ["math/bits.Add64", "slices.overlaps[tarn/api.Held]", "internal/bytealg.abigen_runtime_cmpstring", "math/bits.Sub64"], unfollowed := true, recurses := true, named := ["math/bits.divideError", "math/bits.overflowError"], apart := false }
def RepairPairsSaid : Prop := repairPairsRow.holds Tryz.pinned (OpenSpec.ofChange repairPairsSpec)

/-- ITS FALSE NEIGHBOUR: 'it returns false'. Refute it at one input. -/
def repairPairsWrong : ChangeSpec := { name := "repairPairs", fn := fun _ => fun
  | [d] => { results := [.lit (.bool false)], args := [d] }
  | _ => none }
def RepairPairsWrongFalsely : Prop := repairPairsRow.holds Tryz.pinned (OpenSpec.ofChange repairPairsWrong)

/-- 'tarnlaw22.RepairGaps': WHATEVER THE INPUT: true; the input reads as it did. -/
def repairGapsSpec : ChangeSpec := { name := "repairGaps", fn := fun _ => fun
  | [d] => { results := [.lit (.bool true)], args := [d] }
  | _ => none }
def repairGapsRow : OpenClaim := { program := "ytoanndmidgdcfaagreat", sum := "d92daf4df57ac28c614f264546de686379fb97930d46f611c33744dca0f9ea05", func := "tarn/tarnlaw22.RepairGaps", spec := "repairGaps", inPlace := ["math/bits.Add64", "slices.overlaps[tarn/api.Held]", "internal/bytealg.abigen_runtime_cmpstring", "math/bits.Sub64"], unfollowed := true, recurses := true, named := ["math/bits.divideError", "math/bits.overflowError"], apart := false }
def RepairGapsSaid : Prop := repairGapsRow.holds Tryz.pinned (OpenSpec.ofChange repairGapsSpec)

/-- ITS FALSE NEIGHBOUR: 'it returns false'. Refute it at one input. -/
def repairGapsWrong : ChangeSpec := { name := "repairGaps", fn := fun _ => fun
  | [d] => { results := [.lit (.bool false)], args := [d] }
  | _ => none }
def RepairGapsWrongFalsely : Prop := repairGapsRow.holds Tryz.pinned (OpenSpec.ofChange repairGapsWrong)

/-- 'tarnlaw22.RepairWrongs': WHATEVER THE INPUT: true; the input reads as it did. -/
def repairWrongsSpec : ChangeSpec := { name := "repairWrongs", fn := fun _ => fun
  | [d] => { results := [.lit (.bool true)], args := [d] }
  | _ => none }
def repairWrongsRow : OpenClaim := { program := "ytoanndmidgdcfaagreat", sum := "d92daf4df57ac28c614f264546de686379fb97930d46f611c33744dca0f9ea05", func := "tarn/tarnlaw22.RepairWrongs", spec := "repairWrongs", inPlace := ["math/bits.Add64", "slices.overlaps[tarn/api.Held]", "internal/bytealg.abigen_runtime_cmpstring", "math/bits.Sub64"], unfollowed := true, recurses := true, named := ["math/bits.divideError", "math/bits.overflowError"], apart := false }
def RepairWrongsSaid : Prop := repairWrongsRow.holds Tryz.pinned (OpenSpec.ofChange repairWrongsSpec)

/-- ITS FALSE NEIGHBOUR: 'it returns false'. Refute it at one input. -/
def repairWrongsWrong : ChangeSpec := { name := "repairWrongs", fn := fun _ => fun
  | [d] => { results := [.lit (.bool false)], args := [d] }
  | _ => none }
def RepairWrongsWrongFalsely : Prop := repairWrongsRow.holds Tryz.pinned (OpenSpec.ofChange repairWrongsWrong)

/-- 'tarnlaw21.ResetBack': WHATEVER THE INPUT: true; the input reads as it did. -/
def resetBackSpec : ChangeSpec := { name := "resetBack", fn := fun _ => fun
  | [d] => { results := [.lit (.bool true)], args := [d] }
  | _ => none }
def resetBackRow : OpenClaim := { program := "ytoanndmidgdcfaagreat", sum := "d92daf4df57ac28c614f264546de686379fb97930d46f611c33744dca0f9ea05", func := "tarn/tarnlaw21.ResetBack", spec := "resetBack", inPlace := ["math/bits.Add64", "slices.overlaps[tarn/api.Held]", "internal/bytealg.abigen_runtime_cmpstring", "math/bits.Sub64"], unfollowed := true, recurses := true, named := ["math/bits.divideError", "math/bits.overflowError"], apart := false }
def ResetBackSaid : Prop := resetBackRow.holds Tryz.pinned (OpenSpec.ofChange resetBackSpec)

/-- ITS FALSE NEIGHBOUR: 'it returns false'. Refute it at one input. -/
def resetBackWrong : ChangeSpec := { name := "resetBack", fn := fun _ => fun
  | [d] => { results := [.lit (.bool false)], args := [d] }
  | _ => none }
def ResetBackWrongFalsely : Prop := resetBackRow.holds Tryz.pinned (OpenSpec.ofChange resetBackWrong)

/-- 'tarnlaw21.ResetPoor': WHATEVER THE INPUT: true; the input reads as it did. -/
def resetPoorSpec : ChangeSpec := { name := "resetPoor", fn := fun _ => fun
  | [d] => { results := [.lit (.bool true)], args := [d] }
  | _ => none }
def resetPoorRow : OpenClaim := { program := "ytoanndmidgdcfaagreat", sum := "d92daf4df57ac28c614f264546de686379fb97930d46f611c33744dca0f9ea05", func := "tarn/tarnlaw21.ResetPoor", spec := "resetPoor", inPlace := ["math/bits.Add64", "slices.overlaps[tarn/api.Held]", "internal/bytealg.abigen_runtime_cmpstring", "math/bits.Sub64"], unfollowed := true, recurses := true, named := ["math/bits.divideError", "math/bits.overflowError"], apart := false }
def ResetPoorSaid : Prop := resetPoorRow.holds Tryz.pinned (OpenSpec.ofChange resetPoorSpec)

/-- ITS FALSE NEIGHBOUR: 'it returns false'. Refute it at one input. -/
def resetPoorWrong : ChangeSpec := { name := "resetPoor", fn := fun _ => fun
  | [d] => { results := [.lit (.bool false)], args := [d] }
  | _ => none }
def ResetPoorWrongFalsely : Prop := resetPoorRow.holds Tryz.pinned (OpenSpec.ofChange resetPoorWrong)

/-- 'tarnlaw21.ResetTwo': WHATEVER THE INPUT: true; the input reads as it did. -/
def resetTwoSpec : ChangeSpec := { name := "resetTwo", fn := fun _ => fun
  | [d] => { results := [.lit (.bool true)], args := [d] }
  | _ => none }
def resetTwoRow : OpenClaim := { program := "ytoanndmidgdcfaagreat", sum := "d92daf4df57ac28c614f264546de686379fb97930d46f611c33744dca0f9ea05", func := "tarn/tarnlaw21.ResetTwo", spec := "resetTwo", inPlace := ["math/bits.Add64", "slices.overlaps[tarn/api.Held]", "internal/bytealg.abigen_runtime_cmpstring", "math/bits.Sub64"], unfollowed := true, recurses := true, named := ["math/bits.divideError", "math/bits.overflowError"], apart := false }
def ResetTwoSaid : Prop := resetTwoRow.holds Tryz.pinned (OpenSpec.ofChange resetTwoSpec)

/-- ITS FALSE NEIGHBOUR: 'it returns false'. Refute it at one input. -/
def resetTwoWrong : ChangeSpec := { name := "resetTwo", fn := fun _ => fun
  | [d] => { results := [.lit (.bool false)], args := [d] }
  | _ => none }
def ResetTwoWrongFalsely : Prop := resetTwoRow.holds Tryz.pinned (OpenSpec.ofChange resetTwoWrong)

/- THE SECOND FORM. 'bulk': how many values and letters a reading holds, each counted each time it is reached (what is shared counts as often as it is met; a slice's spare places count too). A statement '..UptoSaid' is the law's where the arguments, and the package variables that the reading takes, are together of bulk at most 1048576: NARROWER than '..Said'. Prove '..Said' where nothing that the law and all that it calls make is longer than what came in: it says more and counts as full. Else prove '..UptoSaid'. A law counts once. -/
mutual
def uptoBulk {H : Type} : DataW H → Nat
  | .lit (.string bytes) => bytes.length + 1
  | .lit _ => 1
  | .nil => 1
  | .ptr d => uptoBulk d + 1
  | .slice elems spare => uptoBulkAll elems + uptoBulkAll spare + 1
  | .agg parts => uptoBulkAll parts + 1
  | .iface _ d => uptoBulk d + 1
  | .map entries => uptoBulkEntries entries + 1
  | .held _ => 1
def uptoBulkAll {H : Type} : List (DataW H) → Nat
  | [] => 0
  | d :: r => uptoBulk d + uptoBulkAll r
def uptoBulkEntries {H : Type} : List (Lit × DataW H) → Nat
  | [] => 0
  | x :: r => uptoBulkEntry x + uptoBulkEntries r
def uptoBulkEntry {H : Type} : Lit × DataW H → Nat
  | (.string bytes, d) => bytes.length + uptoBulk d + 1
  | (_, d) => uptoBulk d + 1
 end
def uptoSmall : (H : Type) → List (DataW H) → Bool := fun _ ds => decide (uptoBulkAll ds ≤ 1048576)
def OpenSpec.upto (s : _root_.Go.ChangeSpec) : _root_.Go.OpenSpec := { _root_.Go.OpenSpec.ofChange s with cond := some uptoSmall }

/-- 'tarnlaw22.RepairPairs', WHERE WHAT IT READS IS OF BULK AT MOST 1048576: true; the input reads as it did. -/
def repairPairsUptoRow : OpenClaim := { program := "ytoanndmidgdcfaagreat", sum := "d92daf4df57ac28c614f264546de686379fb97930d46f611c33744dca0f9ea05", func := "tarn/tarnlaw22.RepairPairs", spec := "repairPairs", inPlace := ["math/bits.Add64", "slices.overlaps[tarn/api.Held]", "internal/bytealg.abigen_runtime_cmpstring", "math/bits.Sub64"], unfollowed := true, recurses := true, named := ["math/bits.divideError", "math/bits.overflowError"], apart := false, narrowed := true }
def RepairPairsUptoSaid : Prop := repairPairsUptoRow.holds Tryz.pinned (OpenSpec.upto repairPairsSpec)

/-- 'tarnlaw22.RepairGaps', WHERE WHAT IT READS IS OF BULK AT MOST 1048576: true; the input reads as it did. -/
def repairGapsUptoRow : OpenClaim := { program := "ytoanndmidgdcfaagreat", sum := "d92daf4df57ac28c614f264546de686379fb97930d46f611c33744dca0f9ea05", func := "tarn/tarnlaw22.RepairGaps", spec := "repairGaps", inPlace := ["math/bits.Add64", "slices.overlaps[tarn/api.Held]", "internal/bytealg.abigen_runtime_cmpstring", "math/bits.Sub64"], unfollowed := true, recurses := true, named := ["math/bits.divideError", "math/bits.overflowError"], apart := false, narrowed := true }
def RepairGapsUptoSaid : Prop := repairGapsUptoRow.holds Tryz.pinned (OpenSpec.upto repairGapsSpec)

/-- 'tarnlaw22.RepairWrongs', WHERE WHAT IT READS IS OF BULK AT MOST 1048576: true; the input reads as it did. -/
def repairWrongsUptoRow : OpenClaim := { program := "ytoanndmidgdcfaagreat", sum := "d92daf4df57ac28c614f264546de686379fb97930d46f611c33744dca0f9ea05", func := "tarn/tarnlaw22.RepairWrongs", spec := "repairWrongs", inPlace := ["math/bits.Add64", "slices.overlaps[tarn/api.Held]", "internal/bytealg.abigen_runtime_cmpstring", "math/bits.Sub64"], unfollowed := true, recurses := true, named := ["math/bits.divideError", "math/bits.overflowError"], apart := false, narrowed := true }
def RepairWrongsUptoSaid : Prop := repairWrongsUptoRow.holds Tryz.pinned (OpenSpec.upto repairWrongsSpec)

/-- 'tarnlaw21.ResetBack', WHERE WHAT IT READS IS OF BULK AT MOST 1048576: true; the input reads as it did. -/
def resetBackUptoRow : OpenClaim := { program := "ytoanndmidgdcfaagreat", sum := "d92daf4df57ac28c614f264546de686379fb97930d46f611c33744dca0f9ea05", func := "tarn/tarnlaw21.ResetBack", spec := "resetBack", inPlace := ["math/bits.Add64", "slices.overlaps[tarn/api.Held]", "internal/bytealg.abigen_runtime_cmpstring", "math/bits.Sub64"], unfollowed := true, recurses := true, named := ["math/bits.divideError", "math/bits.overflowError"], apart := false, narrowed := true }
def ResetBackUptoSaid : Prop := resetBackUptoRow.holds Tryz.pinned (OpenSpec.upto resetBackSpec)

/-- 'tarnlaw21.ResetPoor', WHERE WHAT IT READS IS OF BULK AT MOST 1048576: true; the input reads as it did. -/
def resetPoorUptoRow : OpenClaim := { program := "ytoanndmidgdcfaagreat", sum := "d92daf4df57ac28c614f264546de686379fb97930d46f611c33744dca0f9ea05", func := "tarn/tarnlaw21.ResetPoor", spec := "resetPoor", inPlace := ["math/bits.Add64", "slices.overlaps[tarn/api.Held]", "internal/bytealg.abigen_runtime_cmpstring", "math/bits.Sub64"], unfollowed := true, recurses := true, named := ["math/bits.divideError", "math/bits.overflowError"], apart := false, narrowed := true }
def ResetPoorUptoSaid : Prop := resetPoorUptoRow.holds Tryz.pinned (OpenSpec.upto resetPoorSpec)

/-- 'tarnlaw21.ResetTwo', WHERE WHAT IT READS IS OF BULK AT MOST 1048576: true; the input reads as it did. -/
def resetTwoUptoRow : OpenClaim := { program := "ytoanndmidgdcfaagreat", sum := "d92daf4df57ac28c614f264546de686379fb97930d46f611c33744dca0f9ea05", func := "tarn/tarnlaw21.ResetTwo", spec := "resetTwo", inPlace := ["math/bits.Add64", "slices.overlaps[tarn/api.Held]", "internal/bytealg.abigen_runtime_cmpstring", "math/bits.Sub64"], unfollowed := true, recurses := true, named := ["math/bits.divideError", "math/bits.overflowError"], apart := false, narrowed := true }
def ResetTwoUptoSaid : Prop := resetTwoUptoRow.holds Tryz.pinned (OpenSpec.upto resetTwoSpec)

end Rows
end Go.Proofs.YtoanndmidgdcfaaGreat
