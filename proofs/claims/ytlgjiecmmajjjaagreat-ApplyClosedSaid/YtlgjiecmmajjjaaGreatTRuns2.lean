/- ApplyClosed by tokens: the runs. Conditions: none. -/
import Derived.Test.YtlgjiecmmajjjaaGreatTRunDefs
import Derived.KernelRfl
namespace Go.Pv
set_option maxRecDepth 100000
theorem runsC2 : runsC 2 = true := by kernel_rfl
theorem runsC5 : runsC 5 = true := by kernel_rfl
theorem runsC8 : runsC 8 = true := by kernel_rfl
theorem runsC11 : runsC 11 = true := by kernel_rfl
end Go.Pv
