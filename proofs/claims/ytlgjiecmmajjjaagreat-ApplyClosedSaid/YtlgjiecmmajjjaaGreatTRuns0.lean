/- ApplyClosed by tokens: the runs. Conditions: none. -/
import Derived.Test.YtlgjiecmmajjjaaGreatTRunDefs
import Derived.KernelRfl
namespace Go.Pv
set_option maxRecDepth 100000
theorem runsC0 : runsC 0 = true := by kernel_rfl
theorem runsC3 : runsC 3 = true := by kernel_rfl
theorem runsC6 : runsC 6 = true := by kernel_rfl
theorem runsC9 : runsC 9 = true := by kernel_rfl
theorem runsC12 : runsC 12 = true := by kernel_rfl
end Go.Pv
