/- What Try's function 10 answers, by the kernel. -/
import Derived.Test.YtoanndmidgdcfaaGb
import Derived.Test.YtoanndmidgdcfaaProg
import Derived.KernelRfl
namespace Go.Proofs.Ytoanndmidgdcfaa
open Go
def ranks : List (Option Nat) := [none, none, none, none, none, none, none, none, some 0, some 0, none, some 1, none, none, some 12, some 9, some 0, none, none, none, none, none, some 1, some 11, some 10, some 8, some 0, none, some 0, some 0, some 2, some 10, none, some 6, some 0, none, some 9, none, none, some 3, some 0, none, none, some 7, some 1, some 0, none, some 5, some 0, none, some 1, some 2, some 2, some 2, some 6, none, some 0, some 4, some 0, none, none, none, none, none, none, some 1, none, none, some 0, some 0, some 1, some 0, some 1, some 1, some 5, none, none, some 0, none, none, some 2, none, none, none, some 0, some 0, some 0, some 4, none, none, some 3, none, some 0, none, none, none, none, none, none, none, none, none, none, none, none, none, none, none, none]
noncomputable def rk (f : FuncId) : Option Nat := match Ax.nth ranks f with
  | some r => r
  | none => none
theorem wakes10 : Ax.isTrue (Ax.run Try.prog (fun _ => none) rk 40 100000 10 []) = true := by kernel_rfl
theorem wakes10_ok : Ax.PureOK Try.prog (Ax.known 10 (.bool true)) := Ax.known_ok Ax.none_ok (Ax.isTrue_some wakes10) rfl
end Go.Proofs.Ytoanndmidgdcfaa
