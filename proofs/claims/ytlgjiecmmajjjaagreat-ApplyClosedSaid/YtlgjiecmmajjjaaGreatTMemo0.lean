/- Known calls of one law: that they answer so. Conditions: none. -/
import Derived.Test.YtlgjiecmmajjjaaGreatTMemoDefs
import Derived.KernelRfl
namespace Go.Pv
set_option maxRecDepth 100000
theorem me0_ok : (lev cfg 200).callT me0.1 me0.2.1 = some me0.2.2 := by kernel_rfl
theorem me4_ok : (lev cfg 200).callT me4.1 me4.2.1 = some me4.2.2 := by kernel_rfl
theorem me8_ok : (lev cfg 200).callT me8.1 me8.2.1 = some me8.2.2 := by kernel_rfl
theorem me12_ok : (lev cfg 200).callT me12.1 me12.2.1 = some me12.2.2 := by kernel_rfl
theorem me16_ok : (lev cfg 200).callT me16.1 me16.2.1 = some me16.2.2 := by kernel_rfl
theorem me20_ok : (lev cfg 200).callT me20.1 me20.2.1 = some me20.2.2 := by kernel_rfl
theorem me24_ok : (lev cfg 200).callT me24.1 me24.2.1 = some me24.2.2 := by kernel_rfl
end Go.Pv
