/- What Try's function 11 answers, by the kernel. -/
import Derived.Test.YtcbjobfklcefpaaGb
import Derived.Test.YtcbjobfklcefpaaProg
import Derived.KernelRfl
namespace Go.Proofs.Ytcbjobfklcefpaa
open Go
def ranks : List (Option Nat) := [none, none, none, none, some 0, none, none, none, some 0, some 0, none, none, none, some 0, some 1, none, none, some 1, some 0, none, some 0, some 12, some 9, some 0, some 1, some 11, some 10, some 8, some 0, some 0, some 0, some 2, some 10, none, some 6, some 0, none, some 9, none, none, some 3, some 0, none, none, some 7, some 1, some 0, none, some 5, some 0, none, some 1, some 2, some 2, some 2, some 6, none, some 0, some 4, some 0, none, none, none, none, none, none, some 1, none, none, some 0, some 0, some 1, some 0, some 1, some 1, some 5, none, none, some 0, none, none, some 2, none, none, none, some 0, some 0, some 0, some 4, none, none, some 3, none, some 0, none, none, none, none, none, none, none, none, none, none, none, none, none, none, none, none, none, none]
noncomputable def rk (f : FuncId) : Option Nat := match Ax.nth ranks f with
  | some r => r
  | none => none
theorem wakes11 : Ax.isTrue (Ax.run Try.prog (fun _ => none) rk 40 100000 11 []) = true := by kernel_rfl
theorem wakes11_ok (w : World) : Gw.Ret Try.prog 11 #[] w (fun v w' => v = .bool true ∧ Gw.St Gw.no w w' []) := by
  refine (Ax.run_ok (w := w) Ax.none_ok (Ax.isTrue_some wakes11) rfl).mono ?_
  rintro v w' ⟨e, h1, h2, h3, h4, h5⟩
  exact ⟨e, h1, h2, h3, h4, fun b hb _ => h5 b hb, by simp, by simp, .nil⟩
end Go.Proofs.Ytcbjobfklcefpaa
