/- The evaluator of this program is right. Conditions: none. -/
import Derived.Test.YtlgjiecmmajjjaaGreatTChk0
import Derived.Test.YtlgjiecmmajjjaaGreatTChk1
import Derived.Test.YtlgjiecmmajjjaaGreatTChk2
import Derived.Test.YtlgjiecmmajjjaaGreatTChk3
import Derived.Test.YtlgjiecmmajjjaaGreatTIterOk
namespace Go.Pv
open Go.Proofs
set_option maxRecDepth 100000
def chkList : List Nat := [8, 9, 10, 11, 16, 18, 28, 29, 30, 31, 32, 33, 44, 45, 46, 47, 48, 49, 50, 53, 56, 68, 69, 70, 71, 74, 82, 83, 84, 85, 86, 87, 88, 89, 90, 102, 129, 130, 131, 132, 133, 134, 135, 137, 138, 139, 140, 144, 145, 146, 149, 150, 151, 153, 154, 155, 156, 158, 159, 160, 161, 162, 163, 164, 180, 213, 216, 217, 218, 219, 220, 222, 227, 228, 230, 231, 232, 234, 241, 242, 243, 244, 245, 246, 251, 279, 280, 281, 282, 285, 291, 292, 298, 299, 302, 303, 305, 306, 307, 328, 330, 332, 356, 357, 358, 361, 366, 367, 368, 369]
theorem chk_list : ∀ f ∈ chkList, funcChk cfg f = true := by
  simp only [chkList, List.forall_mem_cons]
  exact ⟨chk8, chk9, chk10, chk11, chk16, chk18, chk28, chk29, chk30, chk31, chk32, chk33, chk44, chk45, chk46, chk47, chk48, chk49, chk50, chk53, chk56, chk68, chk69, chk70, chk71, chk74, chk82, chk83, chk84, chk85, chk86, chk87, chk88, chk89, chk90, chk102, chk129, chk130, chk131, chk132, chk133, chk134, chk135, chk137, chk138, chk139, chk140, chk144, chk145, chk146, chk149, chk150, chk151, chk153, chk154, chk155, chk156, chk158, chk159, chk160, chk161, chk162, chk163, chk164, chk180, chk213, chk216, chk217, chk218, chk219, chk220, chk222, chk227, chk228, chk230, chk231, chk232, chk234, chk241, chk242, chk243, chk244, chk245, chk246, chk251, chk279, chk280, chk281, chk282, chk285, chk291, chk292, chk298, chk299, chk302, chk303, chk305, chk306, chk307, chk328, chk330, chk332, chk356, chk357, chk358, chk361, chk366, chk367, chk368, chk369, fun _ h => by cases h⟩
theorem md_list : (List.range 372).all (fun f => Nat.blt 3 (cfg.md f) || chkList.contains f) = true := by kernel_rfl
theorem chk_all : ∀ f, funcChk cfg f = true := by
  intro f
  by_cases hf : f < 372
  · have := List.all_eq_true.1 md_list f (List.mem_range.2 hf)
    simp only [Bool.or_eq_true] at this
    rcases this with h | h
    · have h3 : 3 < cfg.md f := by simpa using h
      unfold funcChk
      split
      · split
        · have : Nat.ble (cfg.md f) 3 = false := by
            cases hb : Nat.ble (cfg.md f) 3 with
            | false => rfl
            | true => have := Nat.le_of_ble_eq_true hb; omega
          rw [this]; rfl
        · rfl
      · rfl
    · exact chk_list f (by simpa using h)
  · unfold funcChk
    have : cfg.P.funcs[f]? = none := Array.getElem?_eq_none (by rw [funcs_size]; omega)
    rw [this]
theorem good (n : Nat) : Good cfg (lev cfg n) := good_lev iter_ok prims clones (funcs_ok mixed chk_all) n
end Go.Pv
