/- Of the functions that the runs come to: that their codes are fit. Conditions: none. -/
import Derived.Test.YtlgjiecmmajjjaaGreatPvL4
import Derived.Test.YtlgjiecmmajjjaaGreatTCfg
import Derived.KernelRfl
namespace Go.Pv
set_option maxRecDepth 100000
theorem chk245 : funcChk cfg 245 = true := by kernel_rfl
theorem chk246 : funcChk cfg 246 = true := by kernel_rfl
theorem chk251 : funcChk cfg 251 = true := by kernel_rfl
theorem chk279 : funcChk cfg 279 = true := by kernel_rfl
theorem chk280 : funcChk cfg 280 = true := by kernel_rfl
theorem chk281 : funcChk cfg 281 = true := by kernel_rfl
theorem chk282 : funcChk cfg 282 = true := by kernel_rfl
theorem chk285 : funcChk cfg 285 = true := by kernel_rfl
theorem chk291 : funcChk cfg 291 = true := by kernel_rfl
theorem chk292 : funcChk cfg 292 = true := by kernel_rfl
theorem chk298 : funcChk cfg 298 = true := by kernel_rfl
theorem chk299 : funcChk cfg 299 = true := by kernel_rfl
theorem chk302 : funcChk cfg 302 = true := by kernel_rfl
theorem chk303 : funcChk cfg 303 = true := by kernel_rfl
theorem chk305 : funcChk cfg 305 = true := by kernel_rfl
theorem chk306 : funcChk cfg 306 = true := by kernel_rfl
theorem chk307 : funcChk cfg 307 = true := by kernel_rfl
theorem chk328 : funcChk cfg 328 = true := by kernel_rfl
theorem chk330 : funcChk cfg 330 = true := by kernel_rfl
theorem chk332 : funcChk cfg 332 = true := by kernel_rfl
theorem chk356 : funcChk cfg 356 = true := by kernel_rfl
theorem chk357 : funcChk cfg 357 = true := by kernel_rfl
theorem chk358 : funcChk cfg 358 = true := by kernel_rfl
theorem chk361 : funcChk cfg 361 = true := by kernel_rfl
theorem chk366 : funcChk cfg 366 = true := by kernel_rfl
theorem chk367 : funcChk cfg 367 = true := by kernel_rfl
theorem chk368 : funcChk cfg 368 = true := by kernel_rfl
theorem chk369 : funcChk cfg 369 = true := by kernel_rfl
end Go.Pv
