/- The settings of the evaluator for this program: how each function is called; the one that the library's contract answers for. Conditions: none, these are definitions. -/
import Derived.Test.YtlgjiecmmajjjaaGreatTIter
import Derived.Test.YtlgjiecmmajjjaaGreatTTab
import Derived.Test.YtlgjiecmmajjjaaGreatProg
import Derived.Shelf.Strings.Runes
namespace Go.Pv
def mdArr : Array Nat := #[9, 9, 9, 9, 9, 9, 9, 9, 0, 1, 1, 0, 9, 9, 9, 9, 1, 9, 1, 9, 9, 9, 9, 9, 9, 9, 9, 9, 1, 1, 1, 0, 1, 1, 9, 9, 9, 5, 5, 9, 9, 9, 9, 9, 0, 1, 3, 0, 0, 1, 1, 9, 9, 0, 5, 9, 0, 9, 9, 9, 9, 9, 9, 9, 9, 9, 9, 9, 3, 0, 0, 0, 9, 5, 1, 9, 5, 9, 9, 9, 9, 9, 0, 0, 0, 3, 3, 0, 1, 1, 1, 9, 9, 9, 9, 9, 9, 9, 9, 9, 9, 9, 0, 9, 9, 9, 9, 9, 9, 9, 9, 9, 9, 9, 9, 9, 9, 9, 9, 9, 9, 9, 9, 9, 9, 9, 9, 9, 9, 1, 1, 1, 1, 1, 1, 0, 4, 0, 2, 0, 0, 9, 9, 9, 3, 1, 3, 5, 9, 0, 2, 0, 9, 2, 0, 0, 0, 5, 2, 0, 2, 0, 3, 2, 0, 9, 9, 9, 9, 9, 9, 9, 9, 9, 9, 9, 9, 9, 9, 9, 0, 9, 9, 9, 9, 9, 9, 9, 9, 9, 9, 9, 9, 9, 9, 9, 9, 9, 9, 9, 9, 9, 9, 9, 9, 9, 9, 9, 9, 9, 9, 9, 9, 0, 5, 9, 3, 3, 3, 3, 3, 5, 1, 9, 9, 9, 9, 3, 1, 9, 0, 1, 1, 9, 0, 9, 9, 9, 9, 9, 9, 2, 2, 2, 0, 0, 0, 9, 9, 9, 9, 0, 9, 9, 9, 9, 9, 9, 9, 9, 9, 9, 9, 9, 9, 9, 9, 9, 9, 9, 9, 9, 9, 9, 9, 9, 9, 9, 9, 0, 0, 0, 0, 9, 9, 0, 9, 9, 9, 9, 9, 1, 0, 5, 9, 9, 9, 9, 1, 3, 9, 9, 2, 0, 9, 2, 0, 0, 9, 9, 9, 9, 9, 9, 9, 9, 9, 9, 9, 9, 9, 9, 9, 9, 9, 9, 9, 9, 0, 9, 2, 9, 2, 9, 9, 9, 9, 9, 9, 9, 9, 9, 9, 9, 9, 9, 9, 9, 9, 9, 9, 9, 9, 9, 9, 9, 1, 1, 1, 9, 9, 1, 9, 9, 9, 9, 1, 1, 1, 1, 9, 9]
def primT (f : FuncId) (ts : List T) : Option T := if f = 136 then
    match ts with
    | [.str s, .int .i32 r] => if 0 ≤ r ∧ r < 128 then some (.bool (decide (0 ≤ Lib.indexByte s.data.toList r.toNat.toUInt8))) else none
    | _ => none
  else none
noncomputable def cfg : Cfg := ⟨Go.Proofs.Tryz.prog, fun f => mdArr.getD f 9, hideT, rtT, ownT, primT, iterT⟩
end Go.Pv
