/- Known calls of one law: that they answer so. Conditions: none. -/
import Derived.Test.YtlgjiecmmajjjaaGreatTMemoDefs
import Derived.KernelRfl
namespace Go.Pv
set_option maxRecDepth 100000
theorem me1_ok : (lev cfg 200).callT me1.1 me1.2.1 = some me1.2.2 := by kernel_rfl
theorem me5_ok : (lev cfg 200).callT me5.1 me5.2.1 = some me5.2.2 := by kernel_rfl
theorem me9_ok : (lev cfg 200).callT me9.1 me9.2.1 = some me9.2.2 := by kernel_rfl
theorem me13_ok : (lev cfg 200).callT me13.1 me13.2.1 = some me13.2.2 := by kernel_rfl
theorem me17_ok : (lev cfg 200).callT me17.1 me17.2.1 = some me17.2.2 := by kernel_rfl
theorem me21_ok : (lev cfg 200).callT me21.1 me21.2.1 = some me21.2.2 := by kernel_rfl
theorem me25_ok : (lev cfg 200).callT me25.1 me25.2.1 = some me25.2.2 := by kernel_rfl
end Go.Pv
