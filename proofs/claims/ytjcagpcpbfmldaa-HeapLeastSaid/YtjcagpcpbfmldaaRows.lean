/-
  No cell of these rows narrows 'for every input' (looked for: loops, veiled, ifaces, maps, wideKeys, modest, calm, conditions, laid).
  DERIVED. THE GIVEN ROWS OF THIS SEAT. 8 by the template 'for every input the law returns true; each argument reads behind the call as it read before'; 0 by the template 'total and deterministic' (their statements: YtjcagpcpbfmldaaTotals.lean).
  GIVEN WITH THE SEED: the statements are not yours to turn. If you find one false, say at which input.
  Laid BY PROGRAM, IN A SANDBOX (cutbox-rows.mjs): the forced cells as the released guide's own fill.sh prints them over the translation 718c72cd313f7488… (all of the seat's roots in one cut). By AI agents, Wed Nov 11 2026. No macro, syntax, notation, axiom, sorry.
-/
import Derived.Test.YtjcagpcpbfmldaaChecked
import GoSem.Claim
import GoSem.ClaimJoined
import GoSem.ClaimMapViews
import Derived.JoinedTies
import Derived.KernelRfl
namespace Go.Proofs.Ytjcagpcpbfmldaa
/- THE CELL 'sum', in the pinned program and in every row, IS THE sha256 OF THE DUMP (.gsa) THAT YtjcagpcpbfmldaaProg.lean LOADS. Nothing in Lean hashes anything: it is a label: what it is worth is what the hold of that sum in a sandbox is worth. -/
noncomputable def Try.pinned : Pinned := { name := "ytjcagpcpbfmldaa", sum := "718c72cd313f7488c962713e14983a278d3b63178303117ff23823e498ee4ce7", checked := Try.checked }
namespace Rows
def none {H : Type} : Left H := { results := [], args := [] }

/-- 'tarnlaw13.HeapLeasts': WHATEVER THE INPUT: true; the input reads as it did. -/
def heapLeastsSpec : ChangeSpec := { name := "heapLeasts", fn := fun _ => fun
  | [d] => { results := [.lit (.bool true)], args := [d] }
  | _ => none }
def heapLeastsRow : OpenClaim := { program := "ytjcagpcpbfmldaa", sum := "718c72cd313f7488c962713e14983a278d3b63178303117ff23823e498ee4ce7", func := "tarn/tarnlaw13.HeapLeasts", spec := "heapLeasts", unfollowed := true, recurses := true, apart := false }
def HeapLeastsSaid : Prop := heapLeastsRow.holds Try.pinned (OpenSpec.ofChange heapLeastsSpec)

/-- ITS FALSE NEIGHBOUR: 'it returns false'. Refute it at one input. -/
def heapLeastsWrong : ChangeSpec := { name := "heapLeasts", fn := fun _ => fun
  | [d] => { results := [.lit (.bool false)], args := [d] }
  | _ => none }
def HeapLeastsWrongFalsely : Prop := heapLeastsRow.holds Try.pinned (OpenSpec.ofChange heapLeastsWrong)

/-- 'tarnlaw13.HeapPushes': WHATEVER THE INPUT: true; the input reads as it did. -/
def heapPushesSpec : ChangeSpec := { name := "heapPushes", fn := fun _ => fun
  | [d] => { results := [.lit (.bool true)], args := [d] }
  | _ => none }
def heapPushesRow : OpenClaim := { program := "ytjcagpcpbfmldaa", sum := "718c72cd313f7488c962713e14983a278d3b63178303117ff23823e498ee4ce7", func := "tarn/tarnlaw13.HeapPushes", spec := "heapPushes", unfollowed := true, recurses := true, apart := false }
def HeapPushesSaid : Prop := heapPushesRow.holds Try.pinned (OpenSpec.ofChange heapPushesSpec)

/-- ITS FALSE NEIGHBOUR: 'it returns false'. Refute it at one input. -/
def heapPushesWrong : ChangeSpec := { name := "heapPushes", fn := fun _ => fun
  | [d] => { results := [.lit (.bool false)], args := [d] }
  | _ => none }
def HeapPushesWrongFalsely : Prop := heapPushesRow.holds Try.pinned (OpenSpec.ofChange heapPushesWrong)

/-- 'tarnlaw13.HeapSets': WHATEVER THE INPUT: true; the input reads as it did. -/
def heapSetsSpec : ChangeSpec := { name := "heapSets", fn := fun _ => fun
  | [d] => { results := [.lit (.bool true)], args := [d] }
  | _ => none }
def heapSetsRow : OpenClaim := { program := "ytjcagpcpbfmldaa", sum := "718c72cd313f7488c962713e14983a278d3b63178303117ff23823e498ee4ce7", func := "tarn/tarnlaw13.HeapSets", spec := "heapSets", unfollowed := true, recurses := true, apart := false }
def HeapSetsSaid : Prop := heapSetsRow.holds Try.pinned (OpenSpec.ofChange heapSetsSpec)

/-- ITS FALSE NEIGHBOUR: 'it returns false'. Refute it at one input. -/
def heapSetsWrong : ChangeSpec := { name := "heapSets", fn := fun _ => fun
  | [d] => { results := [.lit (.bool false)], args := [d] }
  | _ => none }
def HeapSetsWrongFalsely : Prop := heapSetsRow.holds Try.pinned (OpenSpec.ofChange heapSetsWrong)

/-- 'tarnlaw13.HeapDrops': WHATEVER THE INPUT: true; the input reads as it did. -/
def heapDropsSpec : ChangeSpec := { name := "heapDrops", fn := fun _ => fun
  | [d] => { results := [.lit (.bool true)], args := [d] }
  | _ => none }
def heapDropsRow : OpenClaim := { program := "ytjcagpcpbfmldaa", sum := "718c72cd313f7488c962713e14983a278d3b63178303117ff23823e498ee4ce7", func := "tarn/tarnlaw13.HeapDrops", spec := "heapDrops", unfollowed := true, recurses := true, apart := false }
def HeapDropsSaid : Prop := heapDropsRow.holds Try.pinned (OpenSpec.ofChange heapDropsSpec)

/-- ITS FALSE NEIGHBOUR: 'it returns false'. Refute it at one input. -/
def heapDropsWrong : ChangeSpec := { name := "heapDrops", fn := fun _ => fun
  | [d] => { results := [.lit (.bool false)], args := [d] }
  | _ => none }
def HeapDropsWrongFalsely : Prop := heapDropsRow.holds Try.pinned (OpenSpec.ofChange heapDropsWrong)

/-- 'tarnlaw13.HeapLeast': WHATEVER THE INPUT: true; the input reads as it did. -/
def heapLeastSpec : ChangeSpec := { name := "heapLeast", fn := fun _ => fun
  | [d] => { results := [.lit (.bool true)], args := [d] }
  | _ => none }
def heapLeastRow : OpenClaim := { program := "ytjcagpcpbfmldaa", sum := "718c72cd313f7488c962713e14983a278d3b63178303117ff23823e498ee4ce7", func := "tarn/tarnlaw13.HeapLeast", spec := "heapLeast", unfollowed := true, recurses := true, apart := false }
def HeapLeastSaid : Prop := heapLeastRow.holds Try.pinned (OpenSpec.ofChange heapLeastSpec)

/-- ITS FALSE NEIGHBOUR: 'it returns false'. Refute it at one input. -/
def heapLeastWrong : ChangeSpec := { name := "heapLeast", fn := fun _ => fun
  | [d] => { results := [.lit (.bool false)], args := [d] }
  | _ => none }
def HeapLeastWrongFalsely : Prop := heapLeastRow.holds Try.pinned (OpenSpec.ofChange heapLeastWrong)

/-- 'tarnlaw13.HeapOrders': WHATEVER THE INPUT: true; the input reads as it did. -/
def heapOrdersSpec : ChangeSpec := { name := "heapOrders", fn := fun _ => fun
  | [d] => { results := [.lit (.bool true)], args := [d] }
  | _ => none }
def heapOrdersRow : OpenClaim := { program := "ytjcagpcpbfmldaa", sum := "718c72cd313f7488c962713e14983a278d3b63178303117ff23823e498ee4ce7", func := "tarn/tarnlaw13.HeapOrders", spec := "heapOrders", unfollowed := true, recurses := true, apart := false }
def HeapOrdersSaid : Prop := heapOrdersRow.holds Try.pinned (OpenSpec.ofChange heapOrdersSpec)

/-- ITS FALSE NEIGHBOUR: 'it returns false'. Refute it at one input. -/
def heapOrdersWrong : ChangeSpec := { name := "heapOrders", fn := fun _ => fun
  | [d] => { results := [.lit (.bool false)], args := [d] }
  | _ => none }
def HeapOrdersWrongFalsely : Prop := heapOrdersRow.holds Try.pinned (OpenSpec.ofChange heapOrdersWrong)

/-- 'tarnlaw13.HeapMany': WHATEVER THE INPUT: true; the input reads as it did. -/
def heapManySpec : ChangeSpec := { name := "heapMany", fn := fun _ => fun
  | [d] => { results := [.lit (.bool true)], args := [d] }
  | _ => none }
def heapManyRow : OpenClaim := { program := "ytjcagpcpbfmldaa", sum := "718c72cd313f7488c962713e14983a278d3b63178303117ff23823e498ee4ce7", func := "tarn/tarnlaw13.HeapMany", spec := "heapMany", unfollowed := true, recurses := true, apart := false }
def HeapManySaid : Prop := heapManyRow.holds Try.pinned (OpenSpec.ofChange heapManySpec)

/-- ITS FALSE NEIGHBOUR: 'it returns false'. Refute it at one input. -/
def heapManyWrong : ChangeSpec := { name := "heapMany", fn := fun _ => fun
  | [d] => { results := [.lit (.bool false)], args := [d] }
  | _ => none }
def HeapManyWrongFalsely : Prop := heapManyRow.holds Try.pinned (OpenSpec.ofChange heapManyWrong)

/-- 'tarnlaw13.HeapExact': WHATEVER THE INPUT: true; the input reads as it did. -/
def heapExactSpec : ChangeSpec := { name := "heapExact", fn := fun _ => fun
  | [d] => { results := [.lit (.bool true)], args := [d] }
  | _ => none }
def heapExactRow : OpenClaim := { program := "ytjcagpcpbfmldaa", sum := "718c72cd313f7488c962713e14983a278d3b63178303117ff23823e498ee4ce7", func := "tarn/tarnlaw13.HeapExact", spec := "heapExact", unfollowed := true, recurses := true, apart := false }
def HeapExactSaid : Prop := heapExactRow.holds Try.pinned (OpenSpec.ofChange heapExactSpec)

/-- ITS FALSE NEIGHBOUR: 'it returns false'. Refute it at one input. -/
def heapExactWrong : ChangeSpec := { name := "heapExact", fn := fun _ => fun
  | [d] => { results := [.lit (.bool false)], args := [d] }
  | _ => none }
def HeapExactWrongFalsely : Prop := heapExactRow.holds Try.pinned (OpenSpec.ofChange heapExactWrong)

/- THE SECOND FORM. 'bulk': how many values and letters a reading holds, each counted each time it is reached (what is shared counts as often as it is met; a slice's spare places count too). A statement '..UptoSaid' is the law's where the arguments, and the package variables that the reading takes, are together of bulk at most 1048576: NARROWER than '..Said'. Prove '..Said' where nothing that the law and all that it calls make is longer than what came in: it says more and counts as full. Else prove '..UptoSaid'. A law counts once. -/
mutual
def uptoBulk {H : Type} : DataW H → Nat
  | .lit (.string bytes) => bytes.length + 1
  | .lit _ => 1
  | .nil => 1
  | .ptr d => uptoBulk d + 1
  | .slice elems spare => uptoBulkAll elems + uptoBulkAll spare + 1
  | .agg parts => uptoBulkAll parts + 1
  | .iface _ d => uptoBulk d + 1
  | .map entries => uptoBulkEntries entries + 1
  | .held _ => 1
def uptoBulkAll {H : Type} : List (DataW H) → Nat
  | [] => 0
  | d :: r => uptoBulk d + uptoBulkAll r
def uptoBulkEntries {H : Type} : List (Lit × DataW H) → Nat
  | [] => 0
  | x :: r => uptoBulkEntry x + uptoBulkEntries r
def uptoBulkEntry {H : Type} : Lit × DataW H → Nat
  | (.string bytes, d) => bytes.length + uptoBulk d + 1
  | (_, d) => uptoBulk d + 1
 end
def uptoSmall : (H : Type) → List (DataW H) → Bool := fun _ ds => decide (uptoBulkAll ds ≤ 1048576)
def OpenSpec.upto (s : _root_.Go.ChangeSpec) : _root_.Go.OpenSpec := { _root_.Go.OpenSpec.ofChange s with cond := some uptoSmall }

/-- 'tarnlaw13.HeapLeasts', WHERE WHAT IT READS IS OF BULK AT MOST 1048576: true; the input reads as it did. -/
def heapLeastsUptoRow : OpenClaim := { program := "ytjcagpcpbfmldaa", sum := "718c72cd313f7488c962713e14983a278d3b63178303117ff23823e498ee4ce7", func := "tarn/tarnlaw13.HeapLeasts", spec := "heapLeasts", unfollowed := true, recurses := true, apart := false, narrowed := true }
def HeapLeastsUptoSaid : Prop := heapLeastsUptoRow.holds Try.pinned (OpenSpec.upto heapLeastsSpec)

/-- 'tarnlaw13.HeapPushes', WHERE WHAT IT READS IS OF BULK AT MOST 1048576: true; the input reads as it did. -/
def heapPushesUptoRow : OpenClaim := { program := "ytjcagpcpbfmldaa", sum := "718c72cd313f7488c962713e14983a278d3b63178303117ff23823e498ee4ce7", func := "tarn/tarnlaw13.HeapPushes", spec := "heapPushes", unfollowed := true, recurses := true, apart := false, narrowed := true }
def HeapPushesUptoSaid : Prop := heapPushesUptoRow.holds Try.pinned (OpenSpec.upto heapPushesSpec)

/-- 'tarnlaw13.HeapSets', WHERE WHAT IT READS IS OF BULK AT MOST 1048576: true; the input reads as it did. -/
def heapSetsUptoRow : OpenClaim := { program := "ytjcagpcpbfmldaa", sum := "718c72cd313f7488c962713e14983a278d3b63178303117ff23823e498ee4ce7", func := "tarn/tarnlaw13.HeapSets", spec := "heapSets", unfollowed := true, recurses := true, apart := false, narrowed := true }
def HeapSetsUptoSaid : Prop := heapSetsUptoRow.holds Try.pinned (OpenSpec.upto heapSetsSpec)

/-- 'tarnlaw13.HeapDrops', WHERE WHAT IT READS IS OF BULK AT MOST 1048576: true; the input reads as it did. -/
def heapDropsUptoRow : OpenClaim := { program := "ytjcagpcpbfmldaa", sum := "718c72cd313f7488c962713e14983a278d3b63178303117ff23823e498ee4ce7", func := "tarn/tarnlaw13.HeapDrops", spec := "heapDrops", unfollowed := true, recurses := true, apart := false, narrowed := true }
def HeapDropsUptoSaid : Prop := heapDropsUptoRow.holds Try.pinned (OpenSpec.upto heapDropsSpec)

/-- 'tarnlaw13.HeapLeast', WHERE WHAT IT READS IS OF BULK AT MOST 1048576: true; the input reads as it did. -/
def heapLeastUptoRow : OpenClaim := { program := "ytjcagpcpbfmldaa", sum := "718c72cd313f7488c962713e14983a278d3b63178303117ff23823e498ee4ce7", func := "tarn/tarnlaw13.HeapLeast", spec := "heapLeast", unfollowed := true, recurses := true, apart := false, narrowed := true }
def HeapLeastUptoSaid : Prop := heapLeastUptoRow.holds Try.pinned (OpenSpec.upto heapLeastSpec)

/-- 'tarnlaw13.HeapOrders', WHERE WHAT IT READS IS OF BULK AT MOST 1048576: true; the input reads as it did. -/
def heapOrdersUptoRow : OpenClaim := { program := "ytjcagpcpbfmldaa", sum := "718c72cd313f7488c962713e14983a278d3b63178303117ff23823e498ee4ce7", func := "tarn/tarnlaw13.HeapOrders", spec := "heapOrders", unfollowed := true, recurses := true, apart := false, narrowed := true }
def HeapOrdersUptoSaid : Prop := heapOrdersUptoRow.holds Try.pinned (OpenSpec.upto heapOrdersSpec)

/-- 'tarnlaw13.HeapMany', WHERE WHAT IT READS IS OF BULK AT MOST 1048576: true; the input reads as it did. -/
def heapManyUptoRow : OpenClaim := { program := "ytjcagpcpbfmldaa", sum := "718c72cd313f7488c962713e14983a278d3b63178303117ff23823e498ee4ce7", func := "tarn/tarnlaw13.HeapMany", spec := "heapMany", unfollowed := true, recurses := true, apart := false, narrowed := true }
def HeapManyUptoSaid : Prop := heapManyUptoRow.holds Try.pinned (OpenSpec.upto heapManySpec)

/-- 'tarnlaw13.HeapExact', WHERE WHAT IT READS IS OF BULK AT MOST 1048576: true; the input reads as it did. -/
def heapExactUptoRow : OpenClaim := { program := "ytjcagpcpbfmldaa", sum := "718c72cd313f7488c962713e14983a278d3b63178303117ff23823e498ee4ce7", func := "tarn/tarnlaw13.HeapExact", spec := "heapExact", unfollowed := true, recurses := true, apart := false, narrowed := true }
def HeapExactUptoSaid : Prop := heapExactUptoRow.holds Try.pinned (OpenSpec.upto heapExactSpec)

end Rows
end Go.Proofs.Ytjcagpcpbfmldaa
