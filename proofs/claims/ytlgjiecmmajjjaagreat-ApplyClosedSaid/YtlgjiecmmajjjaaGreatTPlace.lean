/- Place: any number as one from 0 on. Conditions: as each lemma says. -/
import Derived.Test.YtlgjiecmmajjjaaGreatPvL4
import Derived.Test.YtlgjiecmmajjjaaGreatTCfg
import Derived.KernelRfl
namespace Go.Pv
open Go.Proofs

theorem mod_pos {x k : Int} (hk : 0 < k) (h : 0 ≤ x.tmod k) : x.tmod k = x % k := by
  rw [Int.tmod_eq_emod] at h ⊢
  split
  · simp
  · next hh =>
    rw [if_neg hh] at h
    have := Int.emod_lt_of_pos x hk
    have := Int.natAbs_of_nonneg (Int.le_of_lt hk)
    omega
theorem mod_neg {x k : Int} (hk : 0 < k) (h : x.tmod k < 0) : x.tmod k + k = x % k := by
  rw [Int.tmod_eq_emod] at h ⊢
  have := Int.emod_nonneg x (Int.ne_of_gt hk)
  split
  · next hh => rw [if_pos hh] at h; omega
  · next hh =>
    have := Int.natAbs_of_nonneg (Int.le_of_lt hk)
    omega
theorem wrap_small {y : Int} (h0 : 0 ≤ y) (h1 : y < 4611686018427387904) : IntKind.i64.wrap y = y := by
  simp [IntKind.wrap, IntKind.signed, IntKind.bits]
  omega

theorem place_run (E : Env) (m : Nat) (x k : Int) (hk : 0 < k) (hk' : k < 4611686018427387904) : ∃ hp c, runF cfg E m 11 [.t (.int .i64 x), .t (.int .i64 k)] [] Heap.emp 0 = some (.t (.int .i64 (x % k)), hp, c) := by
  have hf : cfg.P.funcs[11]? = some Tryz.f11 := Tryz.func11
  have hne : k ≠ 0 := Int.ne_of_gt hk
  unfold runF
  rw [hf]
  by_cases h : x.tmod k < 0
  · simp [Tryz.f11, codeT, code, opsRun, stepI, wants, exec, cls, pureOp, opd, bin, ibin, Tmps.put, Tmps.upd, Tmps.ofList, ofValue, ofScalar, resV, resAll, resOne, hne, h, mod_neg hk h, wrap_small (Int.emod_nonneg x hne) (Int.lt_trans (Int.emod_lt_of_pos x hk) hk')]
  · have h' : 0 ≤ x.tmod k := by omega
    have hn : ¬ x % k < 0 := by have := Int.emod_nonneg x hne; omega
    simp [Tryz.f11, codeT, code, opsRun, stepI, wants, exec, cls, pureOp, opd, bin, ibin, Tmps.put, Tmps.upd, Tmps.ofList, ofValue, ofScalar, resV, resAll, resOne, hne, h', mod_pos hk h', hn]
end Go.Pv
