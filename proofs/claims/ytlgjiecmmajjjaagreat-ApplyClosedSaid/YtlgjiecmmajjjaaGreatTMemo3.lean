/- Known calls of one law: that they answer so. Conditions: none. -/
import Derived.Test.YtlgjiecmmajjjaaGreatTMemoDefs
import Derived.KernelRfl
namespace Go.Pv
set_option maxRecDepth 100000
theorem me3_ok : (lev cfg 200).callT me3.1 me3.2.1 = some me3.2.2 := by kernel_rfl
theorem me7_ok : (lev cfg 200).callT me7.1 me7.2.1 = some me7.2.2 := by kernel_rfl
theorem me11_ok : (lev cfg 200).callT me11.1 me11.2.1 = some me11.2.2 := by kernel_rfl
theorem me15_ok : (lev cfg 200).callT me15.1 me15.2.1 = some me15.2.2 := by kernel_rfl
theorem me19_ok : (lev cfg 200).callT me19.1 me19.2.1 = some me19.2.2 := by kernel_rfl
theorem me23_ok : (lev cfg 200).callT me23.1 me23.2.1 = some me23.2.2 := by kernel_rfl
end Go.Pv
