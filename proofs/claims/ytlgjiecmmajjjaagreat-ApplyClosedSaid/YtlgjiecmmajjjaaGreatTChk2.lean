/- Of the functions that the runs come to: that their codes are fit. Conditions: none. -/
import Derived.Test.YtlgjiecmmajjjaaGreatPvL4
import Derived.Test.YtlgjiecmmajjjaaGreatTCfg
import Derived.KernelRfl
namespace Go.Pv
set_option maxRecDepth 100000
theorem chk155 : funcChk cfg 155 = true := by kernel_rfl
theorem chk156 : funcChk cfg 156 = true := by kernel_rfl
theorem chk158 : funcChk cfg 158 = true := by kernel_rfl
theorem chk159 : funcChk cfg 159 = true := by kernel_rfl
theorem chk160 : funcChk cfg 160 = true := by kernel_rfl
theorem chk161 : funcChk cfg 161 = true := by kernel_rfl
theorem chk162 : funcChk cfg 162 = true := by kernel_rfl
theorem chk163 : funcChk cfg 163 = true := by kernel_rfl
theorem chk164 : funcChk cfg 164 = true := by kernel_rfl
theorem chk180 : funcChk cfg 180 = true := by kernel_rfl
theorem chk213 : funcChk cfg 213 = true := by kernel_rfl
theorem chk216 : funcChk cfg 216 = true := by kernel_rfl
theorem chk217 : funcChk cfg 217 = true := by kernel_rfl
theorem chk218 : funcChk cfg 218 = true := by kernel_rfl
theorem chk219 : funcChk cfg 219 = true := by kernel_rfl
theorem chk220 : funcChk cfg 220 = true := by kernel_rfl
theorem chk222 : funcChk cfg 222 = true := by kernel_rfl
theorem chk227 : funcChk cfg 227 = true := by kernel_rfl
theorem chk228 : funcChk cfg 228 = true := by kernel_rfl
theorem chk230 : funcChk cfg 230 = true := by kernel_rfl
theorem chk231 : funcChk cfg 231 = true := by kernel_rfl
theorem chk232 : funcChk cfg 232 = true := by kernel_rfl
theorem chk234 : funcChk cfg 234 = true := by kernel_rfl
theorem chk241 : funcChk cfg 241 = true := by kernel_rfl
theorem chk242 : funcChk cfg 242 = true := by kernel_rfl
theorem chk243 : funcChk cfg 243 = true := by kernel_rfl
theorem chk244 : funcChk cfg 244 = true := by kernel_rfl
end Go.Pv
