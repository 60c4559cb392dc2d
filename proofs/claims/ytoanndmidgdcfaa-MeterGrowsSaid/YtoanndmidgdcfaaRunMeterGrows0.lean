/- A run of the law MeterGrows, by the kernel. -/
import Derived.Test.YtoanndmidgdcfaaWakes10
import Derived.KernelRfl
namespace Go.Proofs.Ytoanndmidgdcfaa
open Go
theorem runMeterGrows0 : Ax.isTrue (Ax.run Try.prog (Ax.known 10 (.bool true)) rk 40 100000 3 [.agg ⟨[.iface 0 .nilFunc, .iface 0 .nilFunc, .iface 0 .nilFunc, .iface 0 .nilFunc, .iface 0 .nilFunc, .iface 0 .nilFunc, .iface 0 .nilFunc, .iface 0 .nilFunc, .iface 0 .nilFunc, .iface 0 .nilFunc, .iface 1 (.pointer (some ⟨0, 0, none⟩)), .iface 0 .nilFunc]⟩]) = true := by kernel_rfl
end Go.Proofs.Ytoanndmidgdcfaa
