/- A run of the law ResetTwo, by the kernel. -/
import Derived.Test.YtoanndmidgdcfaaGreatRunResetTwo1
import Derived.KernelRfl
namespace Go.Proofs.YtoanndmidgdcfaaGreat
open Go
theorem runResetTwo2 : Ax.isTrue (Ax.run Tryz.prog (Ax.known 25 (.bool true)) rk 40 100000 8 [.agg ⟨[.iface 0 .nilFunc, .iface 0 .nilFunc, .iface 0 .nilFunc, .iface 0 .nilFunc, .iface 0 .nilFunc, .iface 0 .nilFunc, .iface 0 .nilFunc, .iface 0 .nilFunc, .iface 0 .nilFunc, .iface 0 .nilFunc, .iface 5 (.pointer (some ⟨2, 0, none⟩))]⟩]) = true := by kernel_rfl
end Go.Proofs.YtoanndmidgdcfaaGreat
