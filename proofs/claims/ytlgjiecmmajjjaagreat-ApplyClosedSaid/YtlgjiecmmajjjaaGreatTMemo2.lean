/- Known calls of one law: that they answer so. Conditions: none. -/
import Derived.Test.YtlgjiecmmajjjaaGreatTMemoDefs
import Derived.KernelRfl
namespace Go.Pv
set_option maxRecDepth 100000
theorem me2_ok : (lev cfg 200).callT me2.1 me2.2.1 = some me2.2.2 := by kernel_rfl
theorem me6_ok : (lev cfg 200).callT me6.1 me6.2.1 = some me6.2.2 := by kernel_rfl
theorem me10_ok : (lev cfg 200).callT me10.1 me10.2.1 = some me10.2.2 := by kernel_rfl
theorem me14_ok : (lev cfg 200).callT me14.1 me14.2.1 = some me14.2.2 := by kernel_rfl
theorem me18_ok : (lev cfg 200).callT me18.1 me18.2.1 = some me18.2.2 := by kernel_rfl
theorem me22_ok : (lev cfg 200).callT me22.1 me22.2.1 = some me22.2.2 := by kernel_rfl
theorem me26_ok : (lev cfg 200).callT me26.1 me26.2.1 = some me26.2.2 := by kernel_rfl
end Go.Pv
