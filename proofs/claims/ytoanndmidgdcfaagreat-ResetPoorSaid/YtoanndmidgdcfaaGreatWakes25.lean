/- What Tryz's function 25 answers, by the kernel. -/
import Derived.Test.YtoanndmidgdcfaaGreatGb
import Derived.Test.YtoanndmidgdcfaaGreatProg
import Derived.KernelRfl
namespace Go.Proofs.YtoanndmidgdcfaaGreat
open Go
def ranks : List (Option Nat) := [none, none, none, none, none, none, none, none, none, none, none, none, some 0, some 2, some 4, some 1, some 3, none, some 9, some 0, none, none, some 5, none, some 0, none, some 2, some 0, some 1, none, none, some 9, some 1, none, none, some 0, some 3, some 0, some 0, some 0, some 0, some 2, some 8, some 4, none, none, some 0, some 4, some 12, some 0, some 2, none, none, none, none, none, none, some 1, some 0, some 1, some 3, none, none, some 10, some 0, some 1, some 1, none, some 8, some 0, some 0, none, none, some 2, some 7, some 1, some 6, none, none, none, none, none, some 0, some 3, none, some 0, some 11, some 10, some 1, some 0, none, none, none, none, none, some 10, some 0, some 0, some 0, some 2, some 2, none, some 0, some 0, some 10, some 11, none, some 0, none, none, some 7, none, some 5, none, none, none, some 9, none, some 8, none, some 1, some 1, some 6, none, some 5, some 4, some 0, some 0, some 5, none, some 0, some 2, none, some 6, none, none, some 0, some 11, none, none, none, none, some 1, some 0, some 1, some 0, none, none, some 0, some 10, none, none, some 2, some 6, none, some 9, some 4, none, some 0, some 0, some 3, some 1, none, none, some 7, some 1, some 3, some 1, some 1, none, some 5, none, some 1, none, none, some 0, none, none, none, some 1, some 5, none, none, some 0, some 4, some 0, some 1, none, some 2, some 0, some 0, none, some 6, some 3, some 0, none, none, none, none, none, none, some 1, none, none, some 0, some 0, none, none, none, some 0, some 4, none, none, some 3, some 0, some 1, some 5, some 2, none, some 2, none, none, none, none, some 0, none, some 4, some 3, none, none, some 2, some 1, some 0, none, some 0, none, none, none, none, none, none, none, none, none, none, none, none, none, none, none, none, none, none, none]
noncomputable def rk (f : FuncId) : Option Nat := match Ax.nth ranks f with
  | some r => r
  | none => none
theorem wakes25 : Ax.isTrue (Ax.run Tryz.prog (fun _ => none) rk 40 100000 25 []) = true := by kernel_rfl
theorem wakes25_ok : Ax.PureOK Tryz.prog (Ax.known 25 (.bool true)) := Ax.known_ok Ax.none_ok (Ax.isTrue_some wakes25) rfl
end Go.Proofs.YtoanndmidgdcfaaGreat
