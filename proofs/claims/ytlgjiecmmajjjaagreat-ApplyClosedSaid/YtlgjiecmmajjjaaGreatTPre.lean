/- Of this program: its clones, its primitive. Conditions: none. -/
import Derived.Test.YtlgjiecmmajjjaaGreatPvL4
import Derived.Test.YtlgjiecmmajjjaaGreatTCfg
import Derived.KernelRfl
import Derived.Test.YtlgjiecmmajjjaaGreatPvShelf
namespace Go.Pv
open Go.Proofs
set_option maxRecDepth 100000
theorem mixed : cfg.P.follows .mixedOrders = true := by kernel_rfl
theorem funcs_size : cfg.P.funcs.size = 372 := by kernel_rfl
def cloneList : List Nat := [37, 38, 54, 73, 76, 147, 157, 214, 221, 293]
theorem clone_list : (List.range 372).all (fun f => !Nat.beq (cfg.md f) 5 || cloneList.contains f) = true := by kernel_rfl
theorem clones : CloneOk cfg := by
  refine clone_ok fun f fn t hmd hfn ht => ?_
  have hf : f < 372 := by
    have := (Array.getElem?_eq_some_iff.1 hfn).1
    rw [funcs_size] at this
    exact this
  have := List.all_eq_true.1 clone_list f (List.mem_range.2 hf)
  rw [hmd] at this
  have hm : f ∈ cloneList := by simpa using this
  simp only [cloneList, List.mem_cons, List.not_mem_nil, or_false] at hm
  rcases hm with rfl | rfl | rfl | rfl | rfl | rfl | rfl | rfl | rfl | rfl
  · have e : some fn = some Tryz.f37 := hfn.symm.trans Tryz.func37
    simp only [Option.some.injEq] at e; subst e
    simp only [Tryz.f37, List.getElem?_toArray, List.length_cons, List.length_nil, Option.some.injEq] at ht
    have ht' : t = 26 := by simpa using ht.symm
    subst ht'
    exact ⟨by decide, rfl, rfl, _, rfl, .mk ⟨rfl, rfl⟩ ⟨rfl, rfl⟩ ⟨rfl, rfl⟩ ⟨rfl, rfl⟩⟩
  · have e : some fn = some Tryz.f38 := hfn.symm.trans Tryz.func38
    simp only [Option.some.injEq] at e; subst e
    simp only [Tryz.f38, List.getElem?_toArray, List.length_cons, List.length_nil, Option.some.injEq] at ht
    have ht' : t = 28 := by simpa using ht.symm
    subst ht'
    exact ⟨by decide, rfl, rfl, _, rfl, .mk ⟨rfl, rfl⟩ ⟨rfl, rfl⟩ ⟨rfl, rfl⟩ ⟨rfl, rfl⟩⟩
  · have e : some fn = some Tryz.f54 := hfn.symm.trans Tryz.func54
    simp only [Option.some.injEq] at e; subst e
    simp only [Tryz.f54, List.getElem?_toArray, List.length_cons, List.length_nil, Option.some.injEq] at ht
    have ht' : t = 45 := by simpa using ht.symm
    subst ht'
    exact ⟨by decide, rfl, rfl, _, rfl, .mk ⟨rfl, rfl⟩ ⟨rfl, rfl⟩ ⟨rfl, rfl⟩ ⟨rfl, rfl⟩⟩
  · have e : some fn = some Tryz.f73 := hfn.symm.trans Tryz.func73
    simp only [Option.some.injEq] at e; subst e
    simp only [Tryz.f73, List.getElem?_toArray, List.length_cons, List.length_nil, Option.some.injEq] at ht
    have ht' : t = 68 := by simpa using ht.symm
    subst ht'
    exact ⟨by decide, rfl, rfl, _, rfl, .mk ⟨rfl, rfl⟩ ⟨rfl, rfl⟩ ⟨rfl, rfl⟩ ⟨rfl, rfl⟩⟩
  · have e : some fn = some Tryz.f76 := hfn.symm.trans Tryz.func76
    simp only [Option.some.injEq] at e; subst e
    simp only [Tryz.f76, List.getElem?_toArray, List.length_cons, List.length_nil, Option.some.injEq] at ht
    have ht' : t = 22 := by simpa using ht.symm
    subst ht'
    exact ⟨by decide, rfl, rfl, _, rfl, .mk ⟨rfl, rfl⟩ ⟨rfl, rfl⟩ ⟨rfl, rfl⟩ ⟨rfl, rfl⟩⟩
  · have e : some fn = some Tryz.f147 := hfn.symm.trans Tryz.func147
    simp only [Option.some.injEq] at e; subst e
    simp only [Tryz.f147, List.getElem?_toArray, List.length_cons, List.length_nil, Option.some.injEq] at ht
    have ht' : t = 69 := by simpa using ht.symm
    subst ht'
    exact ⟨by decide, rfl, rfl, _, rfl, .mk ⟨rfl, rfl⟩ ⟨rfl, rfl⟩ ⟨rfl, rfl⟩ ⟨rfl, rfl⟩⟩
  · have e : some fn = some Tryz.f157 := hfn.symm.trans Tryz.func157
    simp only [Option.some.injEq] at e; subst e
    simp only [Tryz.f157, List.getElem?_toArray, List.length_cons, List.length_nil, Option.some.injEq] at ht
    have ht' : t = 125 := by simpa using ht.symm
    subst ht'
    exact ⟨by decide, rfl, rfl, _, rfl, .mk ⟨rfl, rfl⟩ ⟨rfl, rfl⟩ ⟨rfl, rfl⟩ ⟨rfl, rfl⟩⟩
  · have e : some fn = some Tryz.f214 := hfn.symm.trans Tryz.func214
    simp only [Option.some.injEq] at e; subst e
    simp only [Tryz.f214, List.getElem?_toArray, List.length_cons, List.length_nil, Option.some.injEq] at ht
    have ht' : t = 23 := by simpa using ht.symm
    subst ht'
    exact ⟨by decide, rfl, rfl, _, rfl, .mk ⟨rfl, rfl⟩ ⟨rfl, rfl⟩ ⟨rfl, rfl⟩ ⟨rfl, rfl⟩⟩
  · have e : some fn = some Tryz.f221 := hfn.symm.trans Tryz.func221
    simp only [Option.some.injEq] at e; subst e
    simp only [Tryz.f221, List.getElem?_toArray, List.length_cons, List.length_nil, Option.some.injEq] at ht
    have ht' : t = 27 := by simpa using ht.symm
    subst ht'
    exact ⟨by decide, rfl, rfl, _, rfl, .mk ⟨rfl, rfl⟩ ⟨rfl, rfl⟩ ⟨rfl, rfl⟩ ⟨rfl, rfl⟩⟩
  · have e : some fn = some Tryz.f293 := hfn.symm.trans Tryz.func293
    simp only [Option.some.injEq] at e; subst e
    simp only [Tryz.f293, List.getElem?_toArray, List.length_cons, List.length_nil, Option.some.injEq] at ht
    have ht' : t = 29 := by simpa using ht.symm
    subst ht'
    exact ⟨by decide, rfl, rfl, _, rfl, .mk ⟨rfl, rfl⟩ ⟨rfl, rfl⟩ ⟨rfl, rfl⟩ ⟨rfl, rfl⟩⟩
theorem prims : PrimOk cfg := by
  intro f ts r hmd hr
  have hprim : primT f ts = some r := hr
  unfold primT at hprim
  split at hprim
  · next hf =>
    subst hf
    split at hprim
    · next s k =>
      split at hprim
      · next hk =>
        simp only [Option.some.injEq] at hprim; subst hprim
        have hc := fun w => Tryz.strings_ContainsRune_ascii s k w hk.1 hk.2
        refine ⟨⟨_, Tryz.func136, by kernel_rfl, by kernel_rfl⟩, fun Φ args w hold hrel => ?_⟩
        simp only [RelTs, RelT] at hrel
        obtain ⟨v, vs, e1, rfl, v2, vs2, rfl, rfl, rfl⟩ := hrel
        have e2 : args = #[.string s, .int .i32 k] := Array.toList_inj.1 (by simpa using e1)
        subst e2
        refine (hc w).mono fun e w' he => ?_
        obtain ⟨rfl, rfl⟩ := he
        exact ⟨Go.RowKit.Below.refl _ _, Φ, fun _ h => h, fun _ h => Or.inl h, hold, by simp only [RelT]⟩
      · cases hprim
    · cases hprim
  · cases hprim
end Go.Pv
