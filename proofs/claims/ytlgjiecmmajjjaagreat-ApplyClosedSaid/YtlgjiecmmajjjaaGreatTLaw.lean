/- ApplyClosed: the call answers true. Conditions: none. -/
import Derived.Test.YtlgjiecmmajjjaaGreatTRuns0
import Derived.Test.YtlgjiecmmajjjaaGreatTRuns1
import Derived.Test.YtlgjiecmmajjjaaGreatTRuns2
import Derived.Test.YtlgjiecmmajjjaaGreatTMemo0
import Derived.Test.YtlgjiecmmajjjaaGreatTMemo1
import Derived.Test.YtlgjiecmmajjjaaGreatTMemo2
import Derived.Test.YtlgjiecmmajjjaaGreatTMemo3
import Derived.Test.YtlgjiecmmajjjaaGreatTPlace
import Derived.Test.YtlgjiecmmajjjaaGreatTGood
namespace Go.Pv
open Go.Proofs

theorem callT_of {C : Cfg} {n : Nat} {f : FuncId} {ts : List T} {x : T} {hp : Heap} {c : Nat} (h4 : C.md f ≠ 4) (h1 : C.md f ≤ 1) (h : runF C (lev C n) n f (ts.map .t) [] Heap.emp 0 = some (.t x, hp, c)) : (lev C (n + 1)).callT f ts = some x := by
  simp only [lev]
  rw [if_neg h4, if_pos h1, h]
  rfl

theorem memo_ok : ∀ e ∈ memo, (lev cfg 200).callT e.1 e.2.1 = some e.2.2 := by
  simp only [memo, List.forall_mem_cons]
  exact ⟨me0_ok, me1_ok, me2_ok, me3_ok, me4_ok, me5_ok, me6_ok, me7_ok, me8_ok, me9_ok, me10_ok, me11_ok, me12_ok, me13_ok, me14_ok, me15_ok, me16_ok, me17_ok, me18_ok, me19_ok, me20_ok, me21_ok, me22_ok, me23_ok, me24_ok, me25_ok, me26_ok, fun _ h => by cases h⟩

theorem runs_all : ∀ r, r < 13 → runsC r = true
  | 0, _ => runsC0 | 1, _ => runsC1 | 2, _ => runsC2 | 3, _ => runsC3 | 4, _ => runsC4 | 5, _ => runsC5 | 6, _ => runsC6
  | 7, _ => runsC7 | 8, _ => runsC8 | 9, _ => runsC9 | 10, _ => runsC10 | 11, _ => runsC11 | 12, _ => runsC12
  | n + 13, h => by omega

theorem md11 : cfg.md 11 = 0 := by kernel_rfl
theorem md8 : cfg.md 8 = 0 := by kernel_rfl
theorem place_call (x k : Int) (hk : 0 < k) (hk' : k < 4611686018427387904) : (lev cfg 200).callT 11 [.int .i64 x, .int .i64 k] = some (.int .i64 (x % k)) := by
  obtain ⟨hp, c, h⟩ := place_run (lev cfg 199) 199 x k hk hk'
  exact callT_of (n := 199) (by rw [md11]; decide) (by rw [md11]; decide) h

theorem law_call (a b : Int) : (lev cfg 201).callT 8 [.int .i64 a, .int .i64 b] = some (.bool true) := by
  have ha0 := Int.emod_nonneg a (b := 13) (by decide)
  have ha1 := Int.emod_lt_of_pos a (b := 13) (by decide)
  have hb0 := Int.emod_nonneg b (b := 7) (by decide)
  have hb1 := Int.emod_lt_of_pos b (b := 7) (by decide)
  have hr : Right (ansC (a % 13).toNat (b % 7).toNat) cfg (lev cfg 200) (fun t => if t = 0 then .t (.int .i64 a) else .t (.int .i64 b)) := by
    intro f n k r h
    unfold ansC at h
    split at h
    · next hf =>
      subst hf
      refine ⟨md11, ?_⟩
      split at h
      · next hh =>
        obtain ⟨rfl, rfl⟩ := hh
        simp only [Option.some.injEq] at h; subst h
        refine ⟨a, rfl, ?_⟩
        rw [place_call a 13 (by decide) (by decide)]
        congr 2
        simp; omega
      · split at h
        · next hh =>
          obtain ⟨rfl, rfl⟩ := hh
          simp only [Option.some.injEq] at h; subst h
          refine ⟨b, rfl, ?_⟩
          rw [place_call b 7 (by decide) (by decide)]
          congr 2
          simp; omega
        · cases h
    · cases h
  have hrun := runs_all (a % 13).toNat (by omega)
  unfold runsC at hrun
  have h1 := List.all_eq_true.1 hrun (b % 7).toNat (List.mem_range.2 (by omega))
  rw [memo_eq memo_ok] at h1
  obtain ⟨hp, c, h2⟩ := trueK_run (vs := [.t (.int .i64 a), .t (.int .i64 b)]) hr rfl (fun t ht => by
    have ht2 : t < 2 := ht
    have : t = 0 ∨ t = 1 := by omega
    rcases this with rfl | rfl <;> rfl) h1
  exact callT_of (n := 200) (by rw [md8]; decide) (by rw [md8]; decide) h2

theorem law_calls (a b : Int) (w : World) : Calls Tryz.prog 8 #[.int .i64 a, .int .i64 b] w fun e w' => e = .returned (.bool true) ∧ Go.RowKit.Below w.heap.size w w' := by
  have h := ((good 201).T 8 _ _ (law_call a b)).2 (fun _ => False) #[.int .i64 a, .int .i64 b] w (fun _ h => h.elim) (by simp [RelTs, RelT])
  refine h.mono fun e w' he => ?_
  cases e with
  | returned x =>
    obtain ⟨hb, Ψ, _, _, _, hx⟩ := he
    simp only [RelT] at hx
    exact ⟨by rw [hx], hb⟩
  | _ => exact he.elim
end Go.Pv
