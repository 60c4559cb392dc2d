/- A run of the law ResetPoor, by the kernel. -/
import Derived.Test.YtoanndmidgdcfaaGreatWakes25
import Derived.KernelRfl
namespace Go.Proofs.YtoanndmidgdcfaaGreat
open Go
theorem runResetPoor0 : Ax.isTrue (Ax.run Tryz.prog (Ax.known 25 (.bool true)) rk 40 100000 7 [.agg ⟨[.iface 0 .nilFunc, .iface 0 .nilFunc, .iface 0 .nilFunc, .iface 0 .nilFunc, .iface 0 .nilFunc, .iface 0 .nilFunc, .iface 0 .nilFunc, .iface 0 .nilFunc, .iface 0 .nilFunc, .iface 0 .nilFunc, .iface 1 (.pointer (some ⟨0, 0, none⟩))]⟩]) = true := by kernel_rfl
end Go.Proofs.YtoanndmidgdcfaaGreat
