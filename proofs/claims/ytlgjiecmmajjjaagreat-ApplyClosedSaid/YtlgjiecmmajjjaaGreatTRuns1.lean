/- ApplyClosed by tokens: the runs. Conditions: none. -/
import Derived.Test.YtlgjiecmmajjjaaGreatTRunDefs
import Derived.KernelRfl
namespace Go.Pv
set_option maxRecDepth 100000
theorem runsC1 : runsC 1 = true := by kernel_rfl
theorem runsC4 : runsC 4 = true := by kernel_rfl
theorem runsC7 : runsC 7 = true := by kernel_rfl
theorem runsC10 : runsC 10 = true := by kernel_rfl
end Go.Pv
