/- Of the functions that the runs come to: that their codes are fit. Conditions: none. -/
import Derived.Test.YtlgjiecmmajjjaaGreatPvL4
import Derived.Test.YtlgjiecmmajjjaaGreatTCfg
import Derived.KernelRfl
namespace Go.Pv
set_option maxRecDepth 100000
theorem chk8 : funcChk cfg 8 = true := by kernel_rfl
theorem chk9 : funcChk cfg 9 = true := by kernel_rfl
theorem chk10 : funcChk cfg 10 = true := by kernel_rfl
theorem chk11 : funcChk cfg 11 = true := by kernel_rfl
theorem chk16 : funcChk cfg 16 = true := by kernel_rfl
theorem chk18 : funcChk cfg 18 = true := by kernel_rfl
theorem chk28 : funcChk cfg 28 = true := by kernel_rfl
theorem chk29 : funcChk cfg 29 = true := by kernel_rfl
theorem chk30 : funcChk cfg 30 = true := by kernel_rfl
theorem chk31 : funcChk cfg 31 = true := by kernel_rfl
theorem chk32 : funcChk cfg 32 = true := by kernel_rfl
theorem chk33 : funcChk cfg 33 = true := by kernel_rfl
theorem chk44 : funcChk cfg 44 = true := by kernel_rfl
theorem chk45 : funcChk cfg 45 = true := by kernel_rfl
theorem chk46 : funcChk cfg 46 = true := by kernel_rfl
theorem chk47 : funcChk cfg 47 = true := by kernel_rfl
theorem chk48 : funcChk cfg 48 = true := by kernel_rfl
theorem chk49 : funcChk cfg 49 = true := by kernel_rfl
theorem chk50 : funcChk cfg 50 = true := by kernel_rfl
theorem chk53 : funcChk cfg 53 = true := by kernel_rfl
theorem chk56 : funcChk cfg 56 = true := by kernel_rfl
theorem chk68 : funcChk cfg 68 = true := by kernel_rfl
theorem chk69 : funcChk cfg 69 = true := by kernel_rfl
theorem chk70 : funcChk cfg 70 = true := by kernel_rfl
theorem chk71 : funcChk cfg 71 = true := by kernel_rfl
theorem chk74 : funcChk cfg 74 = true := by kernel_rfl
theorem chk82 : funcChk cfg 82 = true := by kernel_rfl
end Go.Pv
