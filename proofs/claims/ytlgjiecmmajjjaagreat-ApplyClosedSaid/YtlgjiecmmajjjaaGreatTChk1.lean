/- Of the functions that the runs come to: that their codes are fit. Conditions: none. -/
import Derived.Test.YtlgjiecmmajjjaaGreatPvL4
import Derived.Test.YtlgjiecmmajjjaaGreatTCfg
import Derived.KernelRfl
namespace Go.Pv
set_option maxRecDepth 100000
theorem chk83 : funcChk cfg 83 = true := by kernel_rfl
theorem chk84 : funcChk cfg 84 = true := by kernel_rfl
theorem chk85 : funcChk cfg 85 = true := by kernel_rfl
theorem chk86 : funcChk cfg 86 = true := by kernel_rfl
theorem chk87 : funcChk cfg 87 = true := by kernel_rfl
theorem chk88 : funcChk cfg 88 = true := by kernel_rfl
theorem chk89 : funcChk cfg 89 = true := by kernel_rfl
theorem chk90 : funcChk cfg 90 = true := by kernel_rfl
theorem chk102 : funcChk cfg 102 = true := by kernel_rfl
theorem chk129 : funcChk cfg 129 = true := by kernel_rfl
theorem chk130 : funcChk cfg 130 = true := by kernel_rfl
theorem chk131 : funcChk cfg 131 = true := by kernel_rfl
theorem chk132 : funcChk cfg 132 = true := by kernel_rfl
theorem chk133 : funcChk cfg 133 = true := by kernel_rfl
theorem chk134 : funcChk cfg 134 = true := by kernel_rfl
theorem chk135 : funcChk cfg 135 = true := by kernel_rfl
theorem chk137 : funcChk cfg 137 = true := by kernel_rfl
theorem chk138 : funcChk cfg 138 = true := by kernel_rfl
theorem chk139 : funcChk cfg 139 = true := by kernel_rfl
theorem chk140 : funcChk cfg 140 = true := by kernel_rfl
theorem chk144 : funcChk cfg 144 = true := by kernel_rfl
theorem chk145 : funcChk cfg 145 = true := by kernel_rfl
theorem chk146 : funcChk cfg 146 = true := by kernel_rfl
theorem chk149 : funcChk cfg 149 = true := by kernel_rfl
theorem chk150 : funcChk cfg 150 = true := by kernel_rfl
theorem chk151 : funcChk cfg 151 = true := by kernel_rfl
theorem chk153 : funcChk cfg 153 = true := by kernel_rfl
theorem chk154 : funcChk cfg 154 = true := by kernel_rfl
end Go.Pv
