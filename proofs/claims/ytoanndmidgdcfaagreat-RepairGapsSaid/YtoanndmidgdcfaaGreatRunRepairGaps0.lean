/- A run of the law RepairGaps, by the kernel. -/
import Derived.Test.YtoanndmidgdcfaaGreatWakes17
import Derived.KernelRfl
namespace Go.Proofs.YtoanndmidgdcfaaGreat
open Go
theorem runRepairGaps0 : Ax.isTrue (Ax.run Tryz.prog (Ax.known 17 (.bool true)) rk 40 100000 4 [.agg ⟨[.iface 0 .nilFunc, .iface 0 .nilFunc, .iface 0 .nilFunc, .iface 0 .nilFunc, .iface 0 .nilFunc, .iface 0 .nilFunc, .iface 0 .nilFunc, .iface 0 .nilFunc, .iface 0 .nilFunc, .iface 0 .nilFunc, .iface 1 (.pointer (some ⟨0, 0, none⟩)), .iface 0 .nilFunc]⟩]) = true := by kernel_rfl
end Go.Proofs.YtoanndmidgdcfaaGreat
