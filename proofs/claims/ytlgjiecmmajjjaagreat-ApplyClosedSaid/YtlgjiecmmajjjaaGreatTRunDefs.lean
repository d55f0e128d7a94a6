/- ApplyClosed by tokens: what Place answers. Conditions: none, these are definitions. -/
import Derived.Test.YtlgjiecmmajjjaaGreatTMemoDefs
namespace Go.Pv
def ansC (r q : Nat) : Ans := fun f n k => if f = 11 then (if n = 0 ∧ k = 13 then some (Int.ofNat r) else if n = 1 ∧ k = 7 then some (Int.ofNat q) else none) else none
noncomputable def runsC (r : Nat) : Bool := (List.range 7).all fun q => trueK (ansC r q) cfg (memoEnv memo (lev cfg 200)) 200 8 2
end Go.Pv
