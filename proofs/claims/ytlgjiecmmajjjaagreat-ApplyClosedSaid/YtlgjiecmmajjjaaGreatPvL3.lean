/- The evaluator of Go code and its soundness, a part of four. Conditions: as each lemma says. -/
import Derived.Test.YtlgjiecmmajjjaaGreatPvL2
import Derived.CallsIn
import Derived.Scope
import Derived.ControlIn
import Derived.LoopNIn
import Derived.OrdersIn
import Derived.RangeFuncNested
import Derived.RangeFuncLeaves
/- Calls by value: what is handed over as trees, what comes back. Conditions: as each lemma says. -/
namespace Go.Pv
open Go.RowKit

/-- The rows of these keys are frozen. -/
def FrΦ (X : Ctx) (h : Heap) (ks : List Key) : Nat → Prop := fun b => X.Φ b ∨ ∃ p g es fz o s, (p, g) ∈ ks ∧ h p g = some ⟨fz, .row es⟩ ∧ X.μ p g = some (.blk b o s)

section
variable {X : Ctx} {B : Nat} {h : Heap} (hr : HRel X B h) {Ψ : Nat → Prop}
include hr
theorem snap_rel : ∀ (n : Nat) (v : V) (t : T) (x : Value), snap h n v = some t → RelV X v x → (∀ b, X.Φ b → Ψ b) → (∀ p g es fz b o s, (p, g) ∈ keys h n v → h p g = some ⟨fz, .row es⟩ → X.μ p g = some (.blk b o s) → Ψ b) → RelT Ψ X.w t x
  | 0, v, t, x, hs, _, _, _ => by simp [snap] at hs
  | n + 1, v, t, x, hs, hx, hΦ, hk => by
    have many : ∀ (vs : List V) (ts : List T) (xs : List Value), snapWith (snap h n) vs = some ts → RelVs X vs xs → (∀ p g es fz b o s, (p, g) ∈ keysWith (keys h n) vs → h p g = some ⟨fz, .row es⟩ → X.μ p g = some (.blk b o s) → Ψ b) → RelTs Ψ X.w ts xs := by
      intro vs
      induction vs with
      | nil =>
        intro ts xs h1 h2 _
        simp only [snapWith, Option.some.injEq] at h1; subst h1
        simpa only [RelVs, RelTs] using h2
      | cons v vs ih =>
        intro ts xs h1 h2 h3
        simp only [RelVs] at h2
        obtain ⟨y, ys, rfl, h2, h2'⟩ := h2
        simp only [snapWith] at h1
        split at h1
        · next t' ts' e1 e2 =>
          simp only [Option.some.injEq] at h1; subst h1
          simp only [RelTs]
          refine ⟨y, ys, rfl, snap_rel n v t' y e1 h2 hΦ (fun p g es fz b o s hm => h3 p g es fz b o s (by simp [keysWith, hm])), ih ts' ys e2 h2' (fun p g es fz b o s hm => h3 p g es fz b o s (by simp [keysWith, hm]))⟩
        · cases h1
    have cells : ∀ (vs : List V) (ts : List T) (xs : List Value), snapWith (snap h n) vs = some ts → RelCsV X vs xs → (∀ p g es fz b o s, (p, g) ∈ keysWith (keys h n) vs → h p g = some ⟨fz, .row es⟩ → X.μ p g = some (.blk b o s) → Ψ b) → RelCs Ψ X.w ts xs := by
      intro vs
      induction vs with
      | nil =>
        intro ts xs h1 h2 _
        simp only [snapWith, Option.some.injEq] at h1; subst h1
        simpa only [RelCsV, RelCs] using h2
      | cons v vs ih =>
        intro ts xs h1 h2 h3
        simp only [RelCsV] at h2
        obtain ⟨y, ys, rfl, h2, hsc, h2'⟩ := h2
        simp only [snapWith] at h1
        split at h1
        · next t' ts' e1 e2 =>
          simp only [Option.some.injEq] at h1; subst h1
          simp only [RelCs]
          refine ⟨y, ys, rfl, snap_rel n v t' y e1 h2 hΦ (fun p g es fz b o s hm => h3 p g es fz b o s (by simp [keysWith, hm])), hsc, ih ts' ys e2 h2' (fun p g es fz b o s hm => h3 p g es fz b o s (by simp [keysWith, hm]))⟩
        · cases h1
    have row : ∀ (b sz : Nat) (vs : List V) (ts : List T) (o : Nat), snapWith (snap h n) vs = some ts → RowV X b sz vs o → (∀ p g es fz b o s, (p, g) ∈ keysWith (keys h n) vs → h p g = some ⟨fz, .row es⟩ → X.μ p g = some (.blk b o s) → Ψ b) → RelRow Ψ X.w b sz ts o ∧ ts.length = vs.length := by
      intro b sz vs
      induction vs with
      | nil =>
        intro ts o h1 h2 _
        simp only [snapWith, Option.some.injEq] at h1; subst h1
        simp only [RelRow, List.length_nil, and_self]
      | cons v vs ih =>
        intro ts o h1 h2 h3
        simp only [RowV] at h2
        obtain ⟨⟨y, g1, g2, g3, g4, g5⟩, h2⟩ := h2
        simp only [snapWith] at h1
        split at h1
        · next t' ts' e1 e2 =>
          simp only [Option.some.injEq] at h1; subst h1
          obtain ⟨i1, i2⟩ := ih ts' (o + sz) e2 h2 (fun p g es fz b o s hm => h3 p g es fz b o s (by simp [keysWith, hm]))
          simp only [RelRow, List.length_cons, i2, and_true]
          exact ⟨⟨y, snap_rel n v t' y e1 g1 hΦ (fun p g es fz b o s hm => h3 p g es fz b o s (by simp [keysWith, hm])), g3, g4, g5⟩, i1⟩
        · cases h1
    cases v with
    | t y =>
      simp only [snap, Option.some.injEq] at hs; subst hs
      simp only [RelV] at hx
      exact RelT.mono hΦ (fun _ _ => rfl) _ _ hx
    | cap0 =>
      simp only [snap, Option.some.injEq] at hs; subst hs
      simp only [RelV] at hx
      obtain ⟨a, rfl⟩ := hx
      simp only [RelT]
      exact ⟨a, 0, rfl, Nat.le_refl _, by simp⟩
    | own p g o k s =>
      simp only [snap] at hs
      split at hs
      · next es hes =>
        split at hs
        · next hle =>
          cases hsw : snapWith (snap h n) ((es.drop o).take k) with
          | none => rw [hsw] at hs; cases hs
          | some ts =>
            rw [hsw] at hs
            simp only [Option.map_some, Option.some.injEq] at hs; subst hs
            obtain ⟨fz, hob⟩ := rowAt_spec hes
            simp only [RelV] at hx
            obtain ⟨_, a, cap, rfl, hcap, h0, hvirt, hblk⟩ := hx
            have hlen : ((es.drop o).take k).length = k := by rw [List.length_take, List.length_drop]; omega
            simp only [RelT]
            by_cases hk0 : k = 0
            · subst hk0
              simp only [List.take_zero, snapWith, Option.some.injEq] at hsw; subst hsw
              exact ⟨a, cap, rfl, by simp, by simp⟩
            · obtain ⟨e0, he0⟩ : ∃ e, es[o]? = some e := ⟨_, List.getElem?_eq_getElem (by omega)⟩
              obtain ⟨b, o', s', hm, hp, _, _, hrow, _⟩ := row_place hr hob he0
              obtain ⟨rfl, hh⟩ := hblk b o' s' hm
              rcases hh with hh | ⟨rfl, _⟩
              · omega
              · obtain ⟨i1, i2⟩ := row b s' _ ts (o' + o * s') hsw (rowV_take k (rowV_drop o hrow)) (fun p' g' es' fz' b' o1 s1 hm' => hk p' g' es' fz' b' o1 s1 (by simp [keys, hes, hm']))
                rw [hlen] at i2
                exact ⟨_, cap, by rw [i2], by omega, Or.inr ⟨b, _, s', rfl, hk p g es fz b o' s' (by simp [keys]) hob hm, i1⟩⟩
        · cases hs
      · cases hs
    | vec es =>
      simp only [snap] at hs
      cases hsw : snapWith (snap h n) es with
      | none => rw [hsw] at hs; cases hs
      | some ts =>
        rw [hsw] at hs
        simp only [Option.map_some, Option.some.injEq] at hs; subst hs
        simp only [RelV] at hx
        obtain ⟨a, rfl, hh⟩ := hx
        simp only [RelT]
        rcases hh with rfl | ⟨b, o, sz, rfl, hb, hrow⟩
        · simp only [snapWith, Option.some.injEq] at hsw; subst hsw
          exact ⟨a, 0, rfl, Nat.le_refl _, Or.inl rfl⟩
        · obtain ⟨i1, i2⟩ := row b sz es ts o hsw hrow (fun p' g' es' fz' b' o1 s1 hm' => hk p' g' es' fz' b' o1 s1 (by simpa [keys] using hm'))
          exact ⟨_, es.length, by rw [i2], by omega, Or.inr ⟨b, o, sz, rfl, hΦ b hb, i1⟩⟩
    | agg cs =>
      simp only [snap] at hs
      cases hsw : snapWith (snap h n) cs with
      | none => rw [hsw] at hs; cases hs
      | some ts =>
        rw [hsw] at hs
        simp only [Option.map_some, Option.some.injEq] at hs; subst hs
        simp only [RelV] at hx
        obtain ⟨vs, rfl, hx⟩ := hx
        simp only [RelT]
        exact ⟨vs, rfl, cells cs ts _ hsw hx (fun p' g' es' fz' b' o1 s1 hm' => hk p' g' es' fz' b' o1 s1 (by simpa [keys] using hm'))⟩
    | tup cs =>
      simp only [snap] at hs
      cases hsw : snapWith (snap h n) cs with
      | none => rw [hsw] at hs; cases hs
      | some ts =>
        rw [hsw] at hs
        simp only [Option.map_some, Option.some.injEq] at hs; subst hs
        simp only [RelV] at hx
        obtain ⟨vs, rfl, hx⟩ := hx
        simp only [RelT]
        exact ⟨vs, rfl, many cs ts _ hsw hx (fun p' g' es' fz' b' o1 s1 hm' => hk p' g' es' fz' b' o1 s1 (by simpa [keys] using hm'))⟩
    | fn f fi ca =>
      cases ca with
      | cons _ _ => simp [snap] at hs
      | nil =>
        simp only [snap] at hs
        cases hsw : snapWith (snap h n) fi with
        | none => rw [hsw] at hs; cases hs
        | some ts =>
          rw [hsw] at hs
          simp only [Option.map_some, Option.some.injEq] at hs; subst hs
          simp only [RelV] at hx
          obtain ⟨a, b, rfl, hx, hb⟩ := hx
          simp only [RelVs] at hb
          have : b = #[] := Array.toList_eq_nil_iff.1 hb
          subst this
          simp only [RelT]
          exact ⟨a, rfl, many fi ts _ hsw hx (fun p' g' es' fz' b' o1 s1 hm' => hk p' g' es' fz' b' o1 s1 (by simpa [keys] using hm'))⟩
    | _ => simp [snap] at hs
theorem snaps_rel (n : Nat) : ∀ (vs : List V) (ts : List T) (xs : List Value), snapWith (snap h n) vs = some ts → RelVs X vs xs → (∀ b, X.Φ b → Ψ b) → (∀ p g es fz b o s, (p, g) ∈ keysWith (keys h n) vs → h p g = some ⟨fz, .row es⟩ → X.μ p g = some (.blk b o s) → Ψ b) → RelTs Ψ X.w ts xs
  | [], ts, xs, h1, h2, _, _ => by
    simp only [snapWith, Option.some.injEq] at h1; subst h1
    simpa only [RelVs, RelTs] using h2
  | v :: vs, ts, xs, h1, h2, hΦ, h3 => by
    simp only [RelVs] at h2
    obtain ⟨y, ys, rfl, h2, h2'⟩ := h2
    simp only [snapWith] at h1
    split at h1
    · next t' ts' e1 e2 =>
      simp only [Option.some.injEq] at h1; subst h1
      simp only [RelTs]
      exact ⟨y, ys, rfl, snap_rel hr n v t' y e1 h2 hΦ (fun p g es fz b o s hm => h3 p g es fz b o s (by simp [keysWith, hm])), snaps_rel n vs ts' ys e2 h2' hΦ (fun p g es fz b o s hm => h3 p g es fz b o s (by simp [keysWith, hm]))⟩
    · cases h1
end

section
variable {Φ Ψ : Nat → Prop} {w w' : World}
mutual
theorem flat_rel : ∀ (t : T) (x : Value), t.flat = true → RelT Φ w t x → RelT Ψ w' t x
  | .bool _, _, _, h => h
  | .int _ _, _, _, h => h
  | .str _, _, _, h => h
  | .vec _, _, hf, _ => by simp [T.flat] at hf
  | .agg cs, x, hf, h => by
    simp only [T.flat] at hf
    simp only [RelT] at h ⊢
    obtain ⟨vs, hv, h⟩ := h
    exact ⟨vs, hv, flat_cs cs _ hf h⟩
  | .tup cs, x, hf, h => by
    simp only [T.flat] at hf
    simp only [RelT] at h ⊢
    obtain ⟨vs, hv, h⟩ := h
    exact ⟨vs, hv, flat_ts cs _ hf h⟩
  | .fn f fi, x, hf, h => by
    simp only [T.flat] at hf
    simp only [RelT] at h ⊢
    obtain ⟨vs, hv, h⟩ := h
    exact ⟨vs, hv, flat_ts fi _ hf h⟩
  | .iface t v, x, hf, h => by
    simp only [T.flat] at hf
    simp only [RelT] at h ⊢
    obtain ⟨y, hv, h⟩ := h
    exact ⟨y, hv, flat_rel v y hf h⟩
  | .nilptr, _, _, h => h
  | .nilfn, _, _, h => h
  | .nilif, _, _, h => h
theorem flat_ts : ∀ (ts : List T) (xs : List Value), T.flats ts = true → RelTs Φ w ts xs → RelTs Ψ w' ts xs
  | [], _, _, h => h
  | t :: ts, xs, hf, h => by
    simp only [T.flats, Bool.and_eq_true] at hf
    simp only [RelTs] at h ⊢
    obtain ⟨v, vs, hv, h1, h2⟩ := h
    exact ⟨v, vs, hv, flat_rel t v hf.1 h1, flat_ts ts vs hf.2 h2⟩
theorem flat_cs : ∀ (ts : List T) (xs : List Value), T.flats ts = true → RelCs Φ w ts xs → RelCs Ψ w' ts xs
  | [], _, _, h => h
  | t :: ts, xs, hf, h => by
    simp only [T.flats, Bool.and_eq_true] at hf
    simp only [RelCs] at h ⊢
    obtain ⟨v, vs, hv, h1, h2, h3⟩ := h
    exact ⟨v, vs, hv, flat_rel t v hf.1 h1, h2, flat_cs ts vs hf.2 h3⟩
end
end

/-- What a call by value leaves. -/
def EndT (Φ : Nat → Prop) (w : World) (r : T) : Ending → World → Prop
  | .returned x, w' => Below w.heap.size w w' ∧ ∃ Ψ : Nat → Prop, (∀ b, Φ b → Ψ b) ∧ (∀ b, Ψ b → Φ b ∨ w.heap.size ≤ b) ∧ (∀ b, Ψ b → b < w'.heap.size) ∧ RelT Ψ w' r x
  | _, _ => False
/-- What a call within the memory leaves. -/
def EndH (X : Ctx) (B : Nat) (h h' : Heap) (c c' : Nat) (v : V) : Ending → World → Prop
  | .returned x, w' => ∃ Y : Ctx, Y.w = w' ∧ Sim B X Y h h' ∧ RelV Y v x ∧ ∀ k, Y.u k → X.u k ∨ (c ≤ k ∧ k < c')
  | _, _ => False
/-- A function with a body of its own. -/
def Enters (P : Program) (f : FuncId) : Prop := ∃ fn, P.funcs[f]? = some fn ∧ fn.body.isNone = false ∧ (fn.name == "runtime.NumGoroutine") = false
structure Good (C : Cfg) (E : Env) : Prop where
  T : ∀ f ts r, E.callT f ts = some r → Enters C.P f ∧ ∀ (Φ : Nat → Prop) (args : Array Value) (w : World), (∀ b, Φ b → b < w.heap.size) → RelTs Φ w ts args.toList → Calls C.P f args w (EndT Φ w r)
  H : ∀ f vs pre h c v h' c', E.callH f vs pre h c = some (v, h', c') → Enters C.P f ∧ ∀ X B (args : Array Value), HRel X B h → RelVs X vs args.toList → (∀ k, X.u k → k < c) → c ≤ c' ∧ Calls C.P f args X.w (EndH X B h h' c c' v)
  K : ∀ f fn t x p h c v h' c', C.md f = 5 → C.P.funcs[f]? = some fn → fn.params[0]? = some t → appendV C.P h p c t .cap0 x t = some (v, h', c') → Enters C.P f ∧ ∀ X B (args : Array Value), HRel X B h → RelVs X [x] args.toList → (∀ k, X.u k → k < c) → c ≤ c' ∧ Calls C.P f args X.w (EndH X B h h' c c' v)

theorem Below.less {B B' : Nat} {w w' : World} (h : Below B w w') (hB : B' ≤ B) : Below B' w w' := ⟨h.os, h.tape, h.output, h.size, fun k hk => h.block k (by omega)⟩

theorem ext_below {X : Ctx} {Ψ : Nat → Prop} {w' : World} (hold : ∀ b, X.Φ b → b < X.w.heap.size) (hΨ : ∀ b, X.Φ b → Ψ b) (hb : Below X.w.heap.size X.w w') : Ext X ⟨Ψ, X.μ, X.u, w'⟩ :=
  ⟨hΨ, fun _ h => h, fun _ _ _ => rfl, fun b h => hb.block b (hold b h), fun b n ⟨cs, el, f, h1, h2⟩ => ⟨cs, el, f, (hb.block b (lt_of_heap h1)).trans h1, h2⟩⟩

theorem freeze_spec {h : Heap} {ks : List Key} {p : List Nat} {g : Nat} {x : Ob} (hx : h.freeze ks p g = some x) : ∃ y, h p g = some y ∧ x.o = y.o ∧ (x = y ∨ x.fz = true) ∧ ((p, g) ∈ ks → x.fz = true) := by
  unfold Heap.freeze at hx
  split at hx
  · next he =>
    have : ks = [] := List.isEmpty_iff.1 he
    subst this
    exact ⟨x, hx, rfl, Or.inl rfl, fun hh => by simp at hh⟩
  · simp only at hx
    split at hx
    · next ob hob =>
      simp only [Option.some.injEq] at hx
      refine ⟨ob, hob, ?_⟩
      subst hx
      split
      · exact ⟨rfl, Or.inr rfl, fun _ => rfl⟩
      · next hc => exact ⟨rfl, Or.inl rfl, fun hh => absurd (by simpa using hh) hc⟩
    · cases hx

/-- After a call by value: the heap as it was, some of its rows frozen. -/
theorem sim_value {X : Ctx} {B : Nat} {h : Heap} (hr : HRel X B h) {ks : List Key} {Ψ : Nat → Prop} {w' : World} (hb : Below X.w.heap.size X.w w') (hΨ : ∀ b, X.Φ b → Ψ b) (hΨ' : ∀ b, Ψ b → FrΦ X h ks b ∨ X.w.heap.size ≤ b) (hlt : ∀ b, Ψ b → b < w'.heap.size) :
    Sim B X ⟨Ψ, X.μ, X.u, w'⟩ h (h.freeze ks) := by
  have hE := ext_below hr.old hΨ hb
  have own : ∀ b, FrΦ X h ks b → X.Φ b ∨ Owned X h b := by
    rintro b (hb | ⟨p, g, es, fz, o, s, _, h2, h3⟩)
    · exact Or.inl hb
    · exact Or.inr ⟨p, g, _, o, s, h2, h3⟩
  have owB : ∀ b, Owned X h b → B ≤ b := by
    rintro b ⟨p, g, x, o, s, h1, h2⟩
    have h3 := (hr.ob p g x h1).2
    rw [h2] at h3
    obtain ⟨fz, oc⟩ := x
    cases oc with
    | row es => exact h3.2.1
    | mp k es => exact h3.1
    | it s p => exact h3.1
  refine ⟨⟨hE, Below.less hb hr.base, fun b hb' => ?_⟩, ⟨fun p g x hx => ?_, fun p g x q k y b o s o' s' h1 h2 m1 m2 => ?_, hlt, Nat.le_trans hr.base hb.size⟩, fun b hb' _ => hb.block b hb', fun b hb' => ?_, fun b hb' => ?_⟩
  · rcases hΨ' b hb' with h1 | h1
    · exact (own b h1).imp id (owB b)
    · exact Or.inr (Nat.le_trans hr.base h1)
  · obtain ⟨y, h1, h2, h3, h4⟩ := freeze_spec hx
    obtain ⟨k1, k2⟩ := hr.ob p g y h1
    refine ⟨k1, ?_⟩
    have k3 : ObRel X B (X.μ p g) ⟨x.fz, y.o⟩ := by
      rcases h3 with rfl | h3
      · exact k2
      · rw [h3]
        obtain ⟨fz, oc⟩ := y
        cases oc with
        | row es =>
          cases hl : X.μ p g with
          | none => rw [hl] at k2; exact k2.elim
          | some l =>
            rw [hl] at k2
            cases l with
            | virt => exact k2
            | blk b o s =>
              obtain ⟨q0, q1, q2, q3, cs, el, f, q4, q5⟩ := k2
              exact ⟨q0, q1, fun _ => rfl, q3, cs, el, f, q4, fun hh => by cases hh⟩
        | mp k es =>
          cases hl : X.μ p g with
          | none => rw [hl] at k2; exact k2.elim
          | some l => rw [hl] at k2; cases l <;> exact k2
        | it s pos =>
          cases hl : X.μ p g with
          | none => rw [hl] at k2; exact k2.elim
          | some l => rw [hl] at k2; cases l <;> exact k2
    have hxe : x = ⟨x.fz, y.o⟩ := by cases x; simp only at h2; rw [h2]
    rw [hxe]
    refine ObRel.mono hE (fun b o s hl => ?_) k3
    have hlt' : b < X.w.heap.size := by rw [hl] at k2; exact ObRel.lt k2
    refine ⟨hb.block b hlt', fun hb' => ?_⟩
    rcases hΨ' b hb' with (e | ⟨p', g', es, fz, o', s', e1, e2, e3⟩) | e
    · exact Or.inl e
    · obtain ⟨rfl, rfl⟩ := hr.inj p g y p' g' _ b o s o' s' h1 e2 hl e3
      rw [h1] at e2
      simp only [Option.some.injEq] at e2
      subst e2
      exact Or.inr ⟨⟨es, rfl⟩, h4 e1⟩
    · omega
  · obtain ⟨x', h1', _⟩ := freeze_spec h1
    obtain ⟨y', h2', _⟩ := freeze_spec h2
    exact hr.inj p g x' q k y' b o s o' s' h1' h2' m1 m2
  · rcases hΨ' b hb' with h1 | h1
    · exact (own b h1).imp id Or.inl
    · exact Or.inr (Or.inr h1)
  · obtain ⟨p, g, x, o, s, h1, m1⟩ := hb'
    obtain ⟨y, h2, _⟩ := freeze_spec h1
    exact Or.inl ⟨p, g, y, o, s, h2, m1⟩

theorem valueCall_sim {C : Cfg} {E : Env} (hG : Good C E) {X : Ctx} {B : Nat} {h : Heap} (hr : HRel X B h) {f : FuncId} {vs : List V} {args : Array Value} {v : V} {ks : List Key} (ha : RelVs X vs args.toList) (hv : valueCall C E h f vs = some (v, ks)) :
    Enters C.P f ∧ Calls C.P f args X.w (fun | .returned x, w' => ∃ Y : Ctx, Y.w = w' ∧ Sim B X Y h (h.freeze ks) ∧ RelV Y v x ∧ ∀ k, Y.u k ↔ X.u k | _, _ => False) := by
  unfold valueCall at hv
  split at hv
  · next ts hts =>
    split at hv
    · next r hcall =>
      let KS := keysWith (keys h deep) vs
      have hold : ∀ b, FrΦ X h KS b → b < X.w.heap.size := by
        rintro b (hb | ⟨p, g, es, fz, o, s, _, h2, h3⟩)
        · exact hr.old b hb
        · exact Owned.lt hr ⟨p, g, _, o, s, h2, h3⟩
      have hrel : RelTs (FrΦ X h KS) X.w ts args.toList := snaps_rel hr deep vs ts _ hts ha (fun b hb => Or.inl hb) (fun p g es fz b o s hm h1 h2 => Or.inr ⟨p, g, es, fz, o, s, hm, h1, h2⟩)
      refine ⟨(hG.T f ts r hcall).1, Calls.mono ((hG.T f ts r hcall).2 (FrΦ X h KS) args X.w hold hrel) fun e w' he => ?_⟩
      cases e with
      | returned x =>
        obtain ⟨hb, Ψ, p1, p2, p3, p4⟩ := he
        split at hv
        · split at hv
          · next hf =>
            simp only [Option.some.injEq, Prod.mk.injEq] at hv
            obtain ⟨rfl, rfl⟩ := hv
            refine ⟨⟨X.Φ, X.μ, X.u, w'⟩, rfl, sim_value hr hb (fun _ h => h) (fun b hb => Or.inl (Or.inl hb)) (fun b hb' => Nat.lt_of_lt_of_le (hr.old b hb') hb.size), ?_, fun k => Iff.rfl⟩
            simp only [RelV]
            exact flat_rel r x hf p4
          · cases hv
        · split at hv
          · simp only [Option.some.injEq, Prod.mk.injEq] at hv
            obtain ⟨rfl, rfl⟩ := hv
            refine ⟨⟨Ψ, X.μ, X.u, w'⟩, rfl, sim_value hr hb (fun b hb => p1 b (Or.inl hb)) p2 p3, ?_, fun k => Iff.rfl⟩
            simp only [RelV]
            exact p4
          · cases hv
      | _ => exact he
    · cases hv
  · cases hv
end Go.Pv
/- One operation, whatever its class. Conditions: as each lemma says. -/
namespace Go.Pv
open Go.RowKit

/-- The fence that lets all in; perhaps within a round of a loop over a function. -/
def FR (r : Option Nat) : Fence := { fn := fun _ => True, depth := none, alive := false, round := r }
theorem callsIn_FR {r : Option Nat} {n : Nat} {P : Program} {f : FuncId} {args : Array Value} {w : World} {R : Ending → World → Prop} (h : Calls P f args w R) : CallsIn (FR r) n P f args w R :=
  (callsIn_wide (n := n)).2 h

/-- What an operation comes to. -/
def Does (P : Program) (o : Oper) (a : Act) (w : World) (R : Value → World → Prop) : Prop :=
  ∀ (r : Option Nat) (n : Nat) (K : Act → World → Prop) (Q : Exit → Act → World → Prop), (∀ v w', R v w' → K (a.put o.dst v) w') → o.wpIn (FR r) n P a w K Q

section
variable {P : Program} {o : Oper} {a : Act} {w w' : World} {R : Value → World → Prop}
theorem does_value {v : Value} (hd : ∀ c, o.op ≠ .defer c) (h : (execOp a.eval o).run P w = .ok (.value v) w') (hR : R v w') : Does P o a w R := fun r n K Q hK => by
  refine ⟨fun _ _ => trivial, ?_⟩
  rw [Oper.semAt_eq _ _ _ hd, h]
  exact hK v w' hR
theorem does_skip (hd : ∀ c, o.op ≠ .defer c) (h : (execOp a.eval o).run P w = .ok .skip w') (hR : R undef w') : Does P o a w R := fun r n K Q hK => by
  refine ⟨fun _ _ => trivial, ?_⟩
  rw [Oper.semAt_eq _ _ _ hd, h]
  exact hK undef w' hR
theorem does_enter {f : FuncId} {args : Array Value} {T : Ending → World → Prop} (hd : ∀ c, o.op ≠ .defer c) (h : (execOp a.eval o).run P w = .ok (.enter f args) w) (hc : Calls P f args w T)
    (hT : ∀ e w', T e w' → ∃ x, e = .returned x ∧ R x w') : Does P o a w R := fun r n K Q hK => by
  refine ⟨fun _ _ => trivial, ?_⟩
  rw [Oper.semAt_eq _ _ _ hd, h]
  refine ⟨fun hh => (by cases hh), callsIn_FR (Calls.mono hc fun e w' he => ?_)⟩
  obtain ⟨x, rfl, hR⟩ := hT e w' he
  exact hK x w' hR
theorem Does.mono {R' : Value → World → Prop} (h : Does P o a w R) (hR : ∀ v w', R v w' → R' v w') : Does P o a w R' := fun r n K Q hK => h r n K Q fun v w' hv => hK v w' (hR v w' hv)
end

theorem callFunc_enter {P : Program} {f : FuncId} {args : Array Value} {w : World} (h : Enters P f) : (callFunc f args).run P w = .ok (.enter f args) w := by
  obtain ⟨fn, h1, h2, h3⟩ := h
  have h3' : ¬ fn.name = "runtime.NumGoroutine" := by simpa using h3
  have h2' : ¬ fn.body = none := by intro hh; rw [hh] at h2; cases h2
  simp [callFunc, Go.Sem.run_bind, program, Sem.run, h1, h2', h3']

theorem method_sim {P : Program} {t : TypeId} {v : Value} {name : String} {f : FuncId} {fuel : Nat} {w : World} (h : methodT P t name = some f) : (method (fuel + 1) t v name).run P w = .ok (f, v) w := by
  unfold methodT at h
  split at h
  · cases h
  · next i hi =>
    split at h
    · next m hm =>
      split at h
      · next hp =>
        have hpl : m.path.toList = [] := by simpa using hp
        split at h
        · cases h
        · next f' d hnp hf hu =>
          simp only [Option.some.injEq] at h; subst h
          have ht : (typeInfo t).run P w = .ok i w := by simp [typeInfo, Sem.run, hi, Go.Sem.run_bind, program]
          simp only [method, run_bind, ht, hm, hpl, follow, run_pure, hf, receiverAt, run_underlying hu, Place.get]
        · cases h
      · cases h
    · cases h

/-- Where a call leads. -/
theorem target_sim {P : Program} {X : Ctx} {ts : Tmps} {a : Act} (hT : TRel X ts a) {cl : Call} {f : FuncId} {vs : List V} {ty : TypeId} (h : target P (opd ts) cl = some (f, vs)) (hf : Enters P f) :
    ∃ args : Array Value, RelVs X vs args.toList ∧ ∀ o : Oper, o.op = .call cl → (execOp a.eval o).run P X.w = .ok (.enter f args) X.w := by
  obtain ⟨callee, args, argTypes⟩ := cl
  have hargs := relVs_arr hT args
  cases callee with
  | value x =>
    simp only [target] at h
    have hx := opd_rel hT x
    split at h
    · next f' fi hfx =>
      simp only [Option.some.injEq, Prod.mk.injEq] at h
      obtain ⟨rfl, rfl⟩ := h
      rw [hfx] at hx
      simp only [RelV, RelT] at hx
      obtain ⟨first, ex, hfi⟩ := hx
      refine ⟨first ++ args.map a.eval, ?_, fun o ho => ?_⟩
      · rw [Array.toList_append]
        exact relVs_append (relVs_t hfi) hargs
      · simp only [execOp, ho, resolve, ex, Deferred.ofValue, run_bind, run_pure, invoke, Array.append_empty]
        exact callFunc_enter hf
    · next f' fi ca hfx =>
      simp only [Option.some.injEq, Prod.mk.injEq] at h
      obtain ⟨rfl, rfl⟩ := h
      rw [hfx] at hx
      simp only [RelV] at hx
      obtain ⟨first, cap, ex, hfi, hca⟩ := hx
      refine ⟨first ++ args.map a.eval ++ cap, ?_, fun o ho => ?_⟩
      · rw [Array.toList_append, Array.toList_append]
        exact relVs_append (relVs_append hfi hargs) hca
      · simp only [execOp, ho, resolve, ex, Deferred.ofValue, run_bind, run_pure, invoke]
        exact callFunc_enter hf
    · cases h
  | invoke rcv name =>
    simp only [target] at h
    have hx := opd_rel hT rcv
    split at h
    · next t v hv =>
      split at h
      · next f' hm =>
        simp only [Option.some.injEq, Prod.mk.injEq] at h
        obtain ⟨rfl, rfl⟩ := h
        rw [hv] at hx
        simp only [RelV, RelT] at hx
        obtain ⟨y, ex, hy⟩ := hx
        refine ⟨#[y] ++ args.map a.eval, ?_, fun o ho => ?_⟩
        · rw [Array.toList_append]
          simp only [List.cons_append, List.nil_append, RelVs]
          exact ⟨y, _, rfl, by simpa only [RelV] using hy, hargs⟩
        · have hms := method_sim (P := P) (t := t) (v := y) (name := name) (fuel := P.types.size + (Made.depth - 1)) (w := X.w) hm
          have hd : P.types.size + (Made.depth - 1) + 1 = P.types.size + Made.depth := by have : 0 < Made.depth := by decide
                                                                                          omega
          rw [hd] at hms
          have hget : (#[a.eval rcv] ++ args.map a.eval)[0]? = some (a.eval rcv) := by rw [Array.getElem?_append_left (by simp)]; rfl
          have hext : (#[a.eval rcv] ++ args.map a.eval).extract 1 (#[a.eval rcv] ++ args.map a.eval).size = args.map a.eval := by
            apply Array.ext'
            simp [List.take_of_length_le]
          simp only [execOp, ho, resolve, run_bind, run_pure, invoke, hget, hext]
          rw [ex]
          have hp : (program).run P X.w = .ok P X.w := rfl
          simp only [callMethod, run_bind, hp, hms]
          exact callFunc_enter hf
      · cases h
    · cases h
  | builtin b => simp [target] at h
end Go.Pv
/- One operation, whatever its class: what the evaluator says is what the machine does. Conditions: as each lemma says. -/
namespace Go.Pv
open Go.RowKit

theorem put_size (a : Act) (d : Option Tmp) (v : Value) : (a.put d v).tmps.size = a.tmps.size := by
  cases d <;> simp [Act.put]
theorem put_defers (a : Act) (d : Option Tmp) (v : Value) : (a.put d v).defers = a.defers := by
  cases d <;> simp [Act.put]
theorem trel_put {X Y : Ctx} {ts : Tmps} {a : Act} {d : Option Tmp} {v : V} {x : Value} (hT : TRel X ts a) (hX : Ext X Y) (hd : ∀ k, d = some k → k < a.tmps.size) (hx : RelV Y v x) : TRel Y (ts.put d v) (a.put d x) := by
  intro t
  have h0 := RelV.mono hX _ _ (hT t)
  cases d with
  | none => exact h0
  | some k =>
    have hk := hd k rfl
    simp only [Tmps.put, Tmps.upd, Act.put]
    rw [Array.getD_eq_getD_getElem?] at h0 ⊢
    by_cases ht : t = k
    · subst ht
      simp [hk]; exact hx
    · simp only [if_neg ht]
      rw [Array.getElem?_setIfInBounds_ne (Ne.symm ht)]
      exact h0

theorem view_sub (h : Heap) (A : At) : ∀ p g x, h.view A p g = some x → h p g = some x := by
  intro p g x hx
  unfold Heap.view at hx
  split at hx
  · simp only at hx
    split at hx
    · cases hx
    · exact hx
  · exact hx
theorem hide_sub (h : Heap) (ks : List Key) : ∀ p g x, h.hide ks p g = some x → h p g = some x := by
  intro p g x hx
  unfold Heap.hide at hx
  split at hx
  · exact hx
  · simp only at hx
    split at hx
    · cases hx
    · exact hx
theorem merge_of (h : Heap) (A : At) (h' : Heap) : ∀ p g x, h.merge A h' p g = some x → h' p g = some x ∨ (h p g = some x ∧ h.view A p g = none) := by
  intro p g x hx
  unfold Heap.merge at hx
  unfold Heap.view
  split at hx
  · next hd =>
    simp only at hx
    split at hx
    · next hc => exact Or.inr ⟨hx, by simp only [hd, if_true]; rw [if_pos hc]⟩
    · exact Or.inl hx
  · exact Or.inl hx
theorem unhide_of (h : Heap) (ks : List Key) (h' : Heap) : ∀ p g x, h.unhide ks h' p g = some x → h' p g = some x ∨ (h p g = some x ∧ h.hide ks p g = none) := by
  intro p g x hx
  unfold Heap.unhide at hx
  unfold Heap.hide
  split at hx
  · exact Or.inl hx
  · next hd =>
    simp only at hx
    split at hx
    · next hc =>
      refine Or.inr ⟨hx, ?_⟩
      rw [if_neg hd]
      exact if_pos hc
    · exact Or.inl hx

/-- What an operation leaves. -/
def Left (C : Cfg) (A : At) (i : Nat) (o : Oper) (s s' : St) (X : Ctx) (B : Nat) (a : Act) (v : Value) (w' : World) : Prop :=
  ∃ Y : Ctx, Y.w = w' ∧ Sim B X Y s.heap s'.heap ∧ TRel Y s'.tmps (a.put o.dst v) ∧ s.c ≤ s'.c ∧ ∀ k, Y.u k → X.u k ∨ (cls C o.op = 1 ∧ k = A.base + i) ∨ (s.c ≤ k ∧ k < s'.c)

theorem cls_no_defer {C : Cfg} {o : Oper} {k : Nat} (h : cls C o.op = k) (hk : k ≠ 9) : ∀ c, o.op ≠ .defer c := by
  intro c hc
  rw [hc] at h
  have h9 : cls C (.defer c) = 9 := rfl
  omega

theorem pure_or_slice {C : Cfg} {X : Ctx} {B : Nat} {h : Heap} {o : Oper} {ts : Tmps} {a : Act} {v : V} (hT : TRel X ts a) (hr : HRel X B h) (hc : cls C o.op = 0) (hv : pureOp C.P (opd ts) o.op = some v) :
    ∃ Y x, (execOp a.eval o).run C.P X.w = .ok (.value x) Y.w ∧ RelV Y v x ∧ Sim B X Y h h ∧ ∀ k, Y.u k ↔ X.u k := by
  by_cases hb : ∃ t n ps, o.op = .buildSlice t n ps
  · obtain ⟨t, n, ps, ho⟩ := hb
    rw [ho] at hv
    simp only [pureOp] at hv
    have hp : PartsRel X (ps.toList.map fun x => (x.1, opd ts x.2)) (ps.map fun x => (x.1, a.eval x.2)).toList := by
      rw [Array.toList_map]
      exact partsRel_map hT ps.toList
    obtain ⟨Y, r, h1, h2, h3, h4⟩ := buildSlice_sim hr hp hv
    refine ⟨Y, r, ?_, h2, h3, h4⟩
    simp only [execOp, ho]
    exact run_v h1
  · obtain ⟨x, h1, h2⟩ := pure_sim C hT hc (fun t n ps hh => hb ⟨t, n, ps, hh⟩) hv
    exact ⟨X, x, h1, h2, Sim.refl hr, fun k => Iff.rfl⟩

theorem isUnder_erase_sub (h : Heap) (p : List Nat) : ∀ q k x, h.erase p q k = some x → h q k = some x := by
  intro q k x hx
  unfold Heap.erase at hx
  split at hx
  · cases hx
  · exact hx

theorem eff_sim {C : Cfg} {E : Env} (hG : Good C E) {p : List Nat} {o : Oper} {ts : Tmps} {a : Act} {X : Ctx} {B c c' : Nat} {h h' : Heap} {v : V} (hT : TRel X ts a) (hr : HRel X B h) (hc : ∀ k, X.u k → k < c) (hcl : cls C o.op = 4)
    (hv : effOp C E p h c (opd ts) o.op = some (v, h', c')) : c ≤ c' ∧ Does C.P o a X.w (fun x w' => ∃ Y : Ctx, Y.w = w' ∧ Sim B X Y h h' ∧ RelV Y v x ∧ ∀ k, Y.u k → X.u k ∨ (c ≤ k ∧ k < c')) := by
  have hnd := cls_no_defer hcl (by decide)
  have hfresh : ¬ X.u c := fun hh => Nat.lt_irrefl _ (hc c hh)
  obtain ⟨dst, op, type, pos, after, guard⟩ := o
  simp only at hv hcl hnd
  cases op with
  | call cl =>
    have calls : ∀ cl : Call, (match target C.P (opd ts) cl with
      | some (f, vs) =>
        if C.md f ≤ 1 ∨ C.md f = 4 then
          match valueCall C E h f vs with
          | some (v, ks) => some (v, h.freeze ks, c)
          | none => none
        else if C.md f = 3 then E.callH f vs p h c
        else if C.md f = 2 then
          match E.callH f vs p h c with
          | some (v, h', c') => some (v, h'.erase p, c')
          | none => none
        else if C.md f = 5 then
          match vs, (C.P.funcs[f]?).bind (fun fn => fn.params[0]?) with
          | [x], some t => appendV C.P h p c t .cap0 x t
          | _, _ => none
        else none
      | none => none) = some (v, h', c') → (∀ c0, Op.call cl ≠ Op.defer c0) → c ≤ c' ∧ Does C.P ⟨dst, .call cl, type, pos, after, guard⟩ a X.w (fun x w' => ∃ Y : Ctx, Y.w = w' ∧ Sim B X Y h h' ∧ RelV Y v x ∧ ∀ k, Y.u k → X.u k ∨ (c ≤ k ∧ k < c')) := by
      intro cl hv hnd
      split at hv
      · next f vs htg =>
        split at hv
        · split at hv
          · next v' ks hvc =>
            simp only [Option.some.injEq, Prod.mk.injEq] at hv
            obtain ⟨rfl, rfl, rfl⟩ := hv
            refine ⟨Nat.le_refl _, ?_⟩
            have hent : Enters C.P f := by
              unfold valueCall at hvc
              split at hvc
              · split at hvc
                · next hcall => exact (hG.T f _ _ hcall).1
                · cases hvc
              · cases hvc
            obtain ⟨args, ha, hrun⟩ := target_sim (ty := type) hT htg hent
            have := (valueCall_sim hG hr ha hvc).2
            refine does_enter hnd (hrun _ rfl) this fun e w' he => ?_
            cases e with
            | returned x =>
              obtain ⟨Y, h1, h2, h3, h4⟩ := he
              exact ⟨x, rfl, Y, h1, h2, h3, fun k hk => Or.inl ((h4 k).1 hk)⟩
            | _ => exact he.elim
          · cases hv
        · split at hv
          · obtain ⟨hent, hall⟩ := hG.H f vs p h c v h' c' hv
            obtain ⟨args, ha, hrun⟩ := target_sim (ty := type) hT htg hent
            obtain ⟨hle, hall⟩ := hall X B args hr ha hc
            refine ⟨hle, ?_⟩
            refine does_enter hnd (hrun _ rfl) hall fun e w' he => ?_
            cases e with
            | returned x =>
              obtain ⟨Y, h1, h2, h3, h4⟩ := he
              exact ⟨x, rfl, Y, h1, h2, h3, h4⟩
            | _ => exact he.elim
          · split at hv
            · split at hv
              · next v' h1' c1' hcall =>
                simp only [Option.some.injEq, Prod.mk.injEq] at hv
                obtain ⟨rfl, rfl, rfl⟩ := hv
                obtain ⟨hent, hall⟩ := hG.H f vs p h c _ _ _ hcall
                obtain ⟨args, ha, hrun⟩ := target_sim (ty := type) hT htg hent
                obtain ⟨hle, hall⟩ := hall X B args hr ha hc
                refine ⟨hle, ?_⟩
                refine does_enter hnd (hrun _ rfl) hall fun e w' he => ?_
                cases e with
                | returned x =>
                  obtain ⟨Y, h1, h2, h3, h4⟩ := he
                  exact ⟨x, rfl, Y, h1, h2.trans (sim_sub h2.rel (isUnder_erase_sub _ p)), h3, h4⟩
                | _ => exact he.elim
              · cases hv
            · split at hv
              · next hmd =>
                split at hv
                · next x t hp =>
                  cases hfn : C.P.funcs[f]? with
                  | none => rw [hfn] at hp; cases hp
                  | some fn =>
                    rw [hfn] at hp
                    simp only [Option.bind_some] at hp
                    obtain ⟨hent, hall⟩ := hG.K f fn t x p h c v h' c' hmd hfn hp hv
                    obtain ⟨args, ha, hrun⟩ := target_sim (ty := type) hT htg hent
                    obtain ⟨hle, hall⟩ := hall X B args hr ha hc
                    refine ⟨hle, ?_⟩
                    refine does_enter hnd (hrun _ rfl) hall fun e w' he => ?_
                    cases e with
                    | returned x =>
                      obtain ⟨Y, h1, h2, h3, h4⟩ := he
                      exact ⟨x, rfl, Y, h1, h2, h3, h4⟩
                    | _ => exact he.elim
                · cases hv
              · cases hv
      · cases hv
    obtain ⟨callee, args, argTypes⟩ := cl
    cases callee with
    | value x => exact calls _ hv hnd
    | invoke r n => exact calls _ hv hnd
    | builtin b =>
      cases b <;> simp only [effOp] at hv <;> try cases hv; done
      case append =>
        split at hv
        · next t tx s x hat hargs =>
          have e1 : argTypes = #[t, tx] := Array.toList_inj.1 (by simpa using hat)
          have e2 : args = #[s, x] := Array.toList_inj.1 (by simpa using hargs)
          subst e1; subst e2
          obtain ⟨hle, Y, r, h1, h2, h3, h4⟩ := append_sim (ty := type) hr hfresh (opd_rel hT s) (opd_rel hT x) hv
          refine ⟨hle, does_value hnd (v := r) (w' := Y.w) ?_ ⟨Y, rfl, h3, h2, h4⟩⟩
          simp only [execOp, resolve, run_bind, run_pure, invoke, builtin, List.map_toArray, List.map_cons, List.map_nil, h1]
        · cases hv
      case clear =>
        split at hv
        · next t x hat hargs =>
          have e1 : argTypes = #[t] := Array.toList_inj.1 (by simpa using hat)
          have e2 : args = #[x] := Array.toList_inj.1 (by simpa using hargs)
          subst e1; subst e2
          split at hv
          · next e q g o n s he hx =>
            split at hv
            · next es z hes hz =>
              split at hv
              · next hcond =>
                obtain ⟨hle, rfl, hzn, hzp, hzs, hall⟩ := hcond
                simp only [Option.some.injEq, Prod.mk.injEq] at hv
                obtain ⟨rfl, rfl, rfl⟩ := hv
                have rx := opd_rel hT x
                rw [hx] at rx
                obtain ⟨Y, h1, h2, h3⟩ := clear_sim (ty := type) hr he hz rx (rowW_spec hes) hle hzn hzp hzs
                refine ⟨Nat.le_refl _, does_value hnd (v := .tuple #[]) (w' := Y.w) ?_ ⟨Y, rfl, h2, ?_, fun k hk => Or.inl ((h3 k).1 hk)⟩⟩
                · simp only [execOp, resolve, run_bind, run_pure, invoke, builtin, List.map_toArray, List.map_cons, List.map_nil, h1]
                · simp only [RelV]
                  exact ⟨#[], rfl, by simp [RelVs]⟩
              · cases hv
            · cases hv
          · cases hv
        · cases hv
  | next x str =>
    simp only [effOp] at hv
    split at hv
    · next q g hx =>
      split at hv
      · next fz s pos hob =>
        have rx := opd_rel hT x
        rw [hx] at rx
        have hns := next_sim (P := C.P) (ty := type) hr rx hob
        split at hv
        · next hlt =>
          simp only [Option.some.injEq, Prod.mk.injEq] at hv
          obtain ⟨rfl, rfl, rfl⟩ := hv
          obtain ⟨Y, r, h1, h2, h3, h4⟩ := hns.1 hlt
          exact ⟨Nat.le_refl _, does_value hnd (by simp only [execOp]; exact run_v h1) ⟨Y, rfl, h3, h2, fun k hk => Or.inl ((h4 k).1 hk)⟩⟩
        · next hge =>
          simp only [Option.some.injEq, Prod.mk.injEq] at hv
          obtain ⟨rfl, rfl, rfl⟩ := hv
          obtain ⟨r, h1, h2⟩ := hns.2 hge
          exact ⟨Nat.le_refl _, does_value hnd (by simp only [execOp]; exact run_v h1) ⟨X, rfl, Sim.refl hr, h2, fun k hk => Or.inl hk⟩⟩
      · cases hv
    · cases hv
  | _ => simp [effOp] at hv
end Go.Pv
/- One operation of any class within a region. Conditions: as each lemma says. -/
namespace Go.Pv
open Go.RowKit

theorem cls1_assign {C : Cfg} {x : Operand} (h : cls C (.assign x) = 1) : x = .const (.slice none 0 0) := by
  unfold cls at h
  split at h
  all_goals first | rfl | (exfalso; omega) | skip
  all_goals rename_i hh
  all_goals first | (cases hh; done) | exact Op.assign.inj hh | (cases h; done)

theorem exec_sim {C : Cfg} {E : Env} (hG : Good C E) {A : At} {i : Nat} {o : Oper} {s s' : St} (he : exec C E A i o s = some s') {X : Ctx} {B : Nat} {a : Act} (hT : TRel X s.tmps a) (hd : ∀ k, o.dst = some k → k < a.tmps.size) (hr : HRel X B s.heap)
    (hg : cls C o.op = 1 → ¬ X.u (A.base + i)) (hc : ∀ k, X.u k → k < s.c) : Does C.P o a X.w (Left C A i o s s' X B a) := by
  unfold exec at he
  simp only at he
  split at he
  · next hcl =>
    split at he
    · next v hv =>
      simp only [Option.some.injEq] at he; subst he
      obtain ⟨Y, x, h1, h2, h3, h4⟩ := pure_or_slice (C := C) hT hr hcl hv
      exact does_value (cls_no_defer hcl (by decide)) h1 ⟨Y, rfl, h3, trel_put hT h3.grow.ext hd h2, Nat.le_refl _, fun k hk => Or.inl ((h4 k).1 hk)⟩
    · cases he
  · next hcl =>
    split at he
    · next ob mk hv =>
      simp only [Option.some.injEq] at he; subst he
      obtain ⟨Y, x, h1, h2, h3, h4, h5⟩ := alloc_sim (p := nameOf A o.dst) (B := B) hT hr (hg hcl) (fun x hx => by rw [hx] at hcl; exact cls1_assign hcl) hv
      exact does_value (cls_no_defer hcl (by decide)) h1 ⟨Y, rfl, h4, trel_put hT h4.grow.ext hd h3, Nat.le_refl _, fun k hk => ((h5 k).1 hk).imp id fun hh => Or.inl ⟨hcl, hh⟩⟩
    · cases he
  · next hcl =>
    split at he
    · split at he
      · next v hv =>
        simp only [Option.some.injEq] at he; subst he
        obtain ⟨x, h1, h2⟩ := load_sim hT hr hv
        exact does_value (cls_no_defer hcl (by decide)) h1 ⟨X, rfl, Sim.refl hr, trel_put hT (Ext.refl X) hd h2, Nat.le_refl _, fun k hk => Or.inl hk⟩
      · cases he
    · cases he
  · next hcl =>
    split at he
    · next cl hop =>
      split at he
      · next f vs htg =>
        split at he
        · next v ks hvc =>
          simp only [Option.some.injEq] at he; subst he
          have hr' : HRel X B (s.heap.view A) := hrel_sub hr (view_sub _ _)
          have hent : Enters C.P f := by
            have hvc' := hvc
            unfold valueCall at hvc'
            split at hvc'
            · split at hvc'
              · next hcall => exact (hG.T f _ _ hcall).1
              · cases hvc'
            · cases hvc'
          obtain ⟨args, ha, hrun⟩ := target_sim (ty := o.type) hT htg hent
          refine does_enter (cls_no_defer hcl (by decide)) (hrun _ hop) (valueCall_sim hG hr' ha hvc).2 fun e w' he => ?_
          cases e with
          | returned x =>
            obtain ⟨Y, h1, h2, h3, h4⟩ := he
            have h5 := Sim.frame_in hr (view_sub _ _) h2 (merge_of s.heap A _)
            exact ⟨x, rfl, Y, h1, h5, trel_put hT h5.grow.ext hd h3, Nat.le_refl _, fun k hk => Or.inl ((h4 k).1 hk)⟩
          | _ => exact he.elim
        · cases he
      · cases he
    · cases he
  · next hcl =>
    split at he
    · next v h' c' hv =>
      simp only [Option.some.injEq] at he; subst he
      have hr' : HRel X B ((s.heap.view A).hide (hideKs C A i s.tmps)) := hrel_sub (hrel_sub hr (view_sub _ _)) (hide_sub _ _)
      obtain ⟨hle, hdo⟩ := eff_sim hG (p := nameOf A o.dst) hT hr' hc hcl hv
      refine hdo.mono fun x w' he => ?_
      obtain ⟨Y, h1, h2, h3, h4⟩ := he
      have h5 := Sim.frame_in (hrel_sub hr (view_sub s.heap A)) (hide_sub _ _) h2 (unhide_of (s.heap.view A) _ _)
      have h6 := Sim.frame_in hr (view_sub _ _) h5 (merge_of s.heap A _)
      exact ⟨Y, h1, h6, trel_put hT h6.grow.ext hd h3, hle, fun k hk => (h4 k hk).imp id Or.inr⟩
    · cases he
  · next hcl =>
    split at he
    · split at he
      · next h' hv =>
        simp only [Option.some.injEq] at he; subst he
        have hr' : HRel X B (s.heap.hide (hideKs C A i s.tmps)) := hrel_sub hr (hide_sub _ _)
        obtain ⟨Y, h1, h2, h3⟩ := store_sim hT hr' hv
        have h6 := Sim.frame_in hr (hide_sub _ _) h2 (unhide_of s.heap _ _)
        exact does_skip (cls_no_defer hcl (by decide)) h1 ⟨Y, rfl, h6, trel_put hT h6.grow.ext hd (by simp only [RelV]), Nat.le_refl _, fun k hk => Or.inl ((h3 k).1 hk)⟩
      · cases he
    · cases he
  · cases he
end Go.Pv
/- A scope, where nobody jumps to a label. Conditions: as each lemma says. -/
namespace Go.Pv
section
variable {F : Fence} {n : Nat} {P : Program} {Q : Exit → Act → World → Prop} {a : Act} {w : World} {b : Frame} {k : List Item} {cs : List Frame}
theorem stepR_scope {c : Code} : step P (lone (b.atR a (.code (.scope c) :: k)) cs w) = .next (lone (b.atR a (.code c :: .inScope c :: k)) cs w) :=
  step_lone_go (by simp [stepG, stepG.exec, Frame.atR])
theorem stepR_inScope {c : Code} : step P (lone (b.atR a (.inScope c :: k)) cs w) = .next (lone (b.atR a k) cs w) :=
  step_lone_go (by simp [stepG, stepG.exec, Frame.atR])
theorem wpIn_scope {c : Code} (h : c.wpIn F n P (Exit.noGoto Q) a w) : (Code.scope c).wpIn F n P Q a w := by
  intro b k cs hro hb hr
  have h0 : (lone (b.atR a (.code (.scope c) :: k)) cs w).fenced P F := fenced_calm hb hr rfl
  obtain ⟨e, a₁, w₁, hq, harr⟩ := h b (.inScope c :: k) cs hro hb hr
  cases e with
  | normal => exact ⟨.normal, a₁, w₁, hq, .head h0 stepR_scope (StepsIn.trans harr (.one (fenced_calm hb hr rfl) stepR_inScope))⟩
  | exit id' =>
    have hx : exitTo id' (.inScope c :: k) = exitTo id' k := by simp [exitTo]
    exact ⟨.exit id', a₁, w₁, hq, fun k' hk => .head h0 stepR_scope (harr.1 k' (by rw [hx]; exact hk)),
      fun hr' hk => let ⟨k₁, h1, h2⟩ := harr.2 hr' (by rw [hx]; exact hk); ⟨k₁, h1, .head h0 stepR_scope h2⟩⟩
  | goto l => exact hq.elim
  | ret => exact ⟨_, a₁, w₁, hq, .of_steps (.one h0 stepR_scope) harr⟩
  | panic ch => exact ⟨_, a₁, w₁, hq, .of_steps (.one h0 stepR_scope) harr⟩
  | outgrown => exact ⟨_, a₁, w₁, hq, .of_steps (.one h0 stepR_scope) harr⟩
end
end Go.Pv
/- Regions in the order of the text, codes, whole functions. Conditions: as each lemma says. -/
namespace Go.Pv
open Go.RowKit

theorem wants_sim {X : Ctx} {ts : Tmps} {a : Act} {ops : Array Oper} {o : Oper} {b : Bool} (hT : TRel X ts a) (h : wants ops o ts = some b) : Region.wanted o (yielded ops a.tmps) = b := by
  unfold wants at h
  unfold Region.wanted
  cases hg : o.guard with
  | none => rw [hg] at h; simp only [Option.some.injEq] at h; exact h
  | some jb =>
    obtain ⟨j, want⟩ := jb
    rw [hg] at h
    simp only at h ⊢
    unfold yielded
    cases hd : (ops[j]?).bind (·.dst) with
    | none => rw [hd] at h; cases h
    | some d =>
      rw [hd] at h
      simp only [Option.bind_some] at h ⊢
      have ht := hT d
      split at h
      · next x hx =>
        simp only [Option.some.injEq] at h; subst h
        rw [hx] at ht
        have := rel_bool ht
        rw [Array.getD_eq_getD_getElem?] at this
        cases hq : a.tmps[d]? with
        | none => rw [hq] at this; cases this
        | some y => rw [hq] at this; simp only [Option.getD_some] at this; subst this; cases x <;> cases want <;> rfl
      · next hx =>
        simp only [Option.some.injEq] at h; subst h
        rw [hx] at ht
        simp only [RelV] at ht
        rw [Array.getD_eq_getD_getElem?] at ht
        cases hq : a.tmps[d]? with
        | none => rfl
        | some y => rw [hq] at ht; simp only [Option.getD_some] at ht; subst ht; rfl
      · cases h

/-- Where a run of the evaluator stands in the machine. -/
structure SRel (X : Ctx) (B N : Nat) (s : St) (a : Act) : Prop where
  T : TRel X s.tmps a
  N : a.tmps.size = N
  H : HRel X B s.heap
/-- From one place to another. -/
structure Goes (c0 B N : Nat) (X Y : Ctx) (s s' : St) (a a' : Act) : Prop where
  sim : Sim B X Y s.heap s'.heap
  T : TRel Y s'.tmps a'
  N : a'.tmps.size = N
  defers : a'.defers = a.defers
  c : s.c ≤ s'.c
  u : ∀ k, Y.u k → X.u k ∨ (c0 ≤ k ∧ k < s'.c)
theorem Goes.srel {c0 B N : Nat} {X Y : Ctx} {s s' : St} {a a' : Act} (h : Goes c0 B N X Y s s' a a') : SRel Y B N s' a' := ⟨h.T, h.N, h.sim.rel⟩
theorem Goes.refl {c0 B N : Nat} {X : Ctx} {s : St} {a : Act} (h : SRel X B N s a) : Goes c0 B N X X s s a a := ⟨Sim.refl h.H, h.T, h.N, rfl, Nat.le_refl _, fun _ hk => Or.inl hk⟩
theorem Goes.trans {c0 c1 B N : Nat} {X Y Z : Ctx} {s s' s'' : St} {a a' a'' : Act} (h : Goes c0 B N X Y s s' a a') (k : Goes c1 B N Y Z s' s'' a' a'') (hle : c0 ≤ c1) : Goes c0 B N X Z s s'' a a'' :=
  ⟨h.sim.trans k.sim, k.T, k.N, k.defers.trans h.defers, Nat.le_trans h.c k.c, fun j hj => by
    have hc := k.c
    rcases k.u j hj with h1 | h1
    · exact (h.u j h1).imp id (fun h2 => by omega)
    · exact Or.inr (by omega)⟩

theorem step_wp {C : Cfg} {E : Env} (hG : Good C E) {A : At} {ops : Array Oper} {i : Nat} {o : Oper} {s s' : St} (hst : stepI C E A ops i o s = some s') (ho : ops[i]? = some o) {X : Ctx} {B N : Nat} {a : Act} (hS : SRel X B N s a) (hd : ∀ k, o.dst = some k → k < N)
    (hg : ¬ X.u (A.base + i)) (hc : ∀ k, X.u k → k < s.c) (hb : A.base + i < s.c) {r : Option Nat} {n : Nat} {K : Act → World → Prop} {Q : Exit → Act → World → Prop}
    (hK : ∀ Y a', Goes A.base B N X Y s s' a a' → (∀ k, Y.u k → X.u k ∨ k = A.base + i ∨ (s.c ≤ k ∧ k < s'.c)) → K a' Y.w) : wpOpIn (FR r) n C.P ops Q i K a X.w := by
  unfold stepI at hst
  unfold wpOpIn
  rw [ho]
  simp only
  split at hst
  · next hw =>
    rw [wants_sim hS.T hw]
    simp only [if_true]
    have hdo := exec_sim hG hst hS.T (fun k hk => by rw [hS.N]; exact hd k hk) hS.H (fun _ => hg) hc
    refine hdo r n K Q fun v w' hv => ?_
    obtain ⟨Y, rfl, h2, h3, h4, h5⟩ := hv
    have hu : ∀ k, Y.u k → X.u k ∨ k = A.base + i ∨ (s.c ≤ k ∧ k < s'.c) := fun k hk => by
      rcases h5 k hk with h | ⟨_, h⟩ | h
      · exact Or.inl h
      · exact Or.inr (Or.inl h)
      · exact Or.inr (Or.inr h)
    refine hK Y _ ⟨h2, h3, by rw [put_size, hS.N], put_defers _ _ _, h4, fun k hk => (hu k hk).imp id (fun h => by omega)⟩ hu
  · next hw =>
    rw [wants_sim hS.T hw]
    simp only [Option.some.injEq] at hst; subst hst
    simp only [Bool.false_eq_true, if_false]
    refine ⟨fun _ _ => trivial, hK X _ ⟨Sim.refl hS.H, trel_put hS.T (Ext.refl X) (fun k hk => by rw [hS.N]; exact hd k hk) (by simp only [RelV]), by rw [put_size, hS.N], put_defers _ _ _, Nat.le_refl _, fun k hk => Or.inl hk⟩ fun k hk => Or.inl hk⟩
  · cases hst

theorem opsRun_wp {C : Cfg} {E : Env} (hG : Good C E) {A : At} {ops : Array Oper} (hn : A.n = ops.size) {B N : Nat} (hd : ∀ o ∈ ops.toList, ∀ k, o.dst = some k → k < N) {r : Option Nat} {n : Nat} {Q : Exit → Act → World → Prop} :
    ∀ (os : List Oper) (i : Nat) (s s' : St), opsRun C E A ops i os s = some s' → ops.toList.drop i = os → A.base + ops.size ≤ s.c → ∀ (X : Ctx) (a : Act), SRel X B N s a → (∀ k, X.u k → k < s.c ∧ (k < A.base + i ∨ A.base + ops.size ≤ k)) →
      (∀ Y a', Goes A.base B N X Y s s' a a' → (∀ k, Y.u k → k < s'.c) → Q .normal a' Y.w) → wpOpsIn (FR r) n C.P ops Q (List.range' i os.length) a X.w
  | [], i, s, s', h, hi, hb, X, a, hS, hu, hQ => by
    simp only [opsRun, Option.some.injEq] at h; subst h
    exact hQ X a (Goes.refl hS) (fun k hk => (hu k hk).1)
  | o :: os, i, s, s', h, hi, hb, X, a, hS, hu, hQ => by
    simp only [opsRun] at h
    split at h
    · next s1 h1 =>
      have hoi : ops.toList[i]? = some o := by
        have := congrArg (fun l => l[0]?) hi
        simpa using this
      have hoi' : ops[i]? = some o := by rw [← Array.getElem?_toList]; exact hoi
      have hlt : i < ops.size := (Array.getElem?_eq_some_iff.1 hoi').1
      simp only [List.length_cons, List.range'_succ]
      rw [wpOpsIn_cons]
      refine step_wp hG h1 hoi' hS (hd o (List.mem_of_getElem? hoi)) (fun hk => ?_) (fun k hk => (hu k hk).1) (by omega) fun Y a' hgo hYu => ?_
      · have := (hu _ hk).2
        omega
      · have hc1 := hgo.c
        refine opsRun_wp hG hn hd os (i + 1) s1 s' h ?_ (by omega) Y a' hgo.srel (fun k hk => ?_) fun Z a'' hgo' hZ => hQ Z a'' (hgo.trans hgo' (Nat.le_refl _)) hZ
        · rw [← List.drop_drop, hi]; rfl
        · rcases hYu k hk with hk | hk | hk
          · have := hu k hk; omega
          · omega
          · omega
    · cases h

/-- A region does what the evaluator says. -/
def RegionOk (C : Cfg) (E : Env) (F : FuncId) (N : Nat) (id : Nat) (ops : Array Oper) (dr : Bool) : Prop :=
  ∀ (pre : List Nat) (s s' : St), opsRun C E ⟨F, id, s.c, ops.size, dr, pre⟩ ops 0 ops.toList { s with c := s.c + ops.size } = some s' →
    ∀ (r : Option Nat) (n : Nat) (X : Ctx) (B : Nat) (a : Act) (Q : Exit → Act → World → Prop), SRel X B N s a → (∀ k, X.u k → k < s.c) →
      (∀ Y a', Goes s.c B N X Y s s' a a' → (∀ k, Y.u k → k < s'.c) → Q .normal a' Y.w) → (Code.region id ops dr).wpIn (FR r) n C.P Q a X.w

theorem region_text {C : Cfg} {E : Env} (hG : Good C E) {F : FuncId} {N id : Nat} {ops : Array Oper} (hd : ∀ o ∈ ops.toList, ∀ k, o.dst = some k → k < N) : RegionOk C E F N id ops false := by
  intro pre s s' h r n X B a Q hS hu hQ
  refine wpIn_region ?_
  have := opsRun_wp hG (A := ⟨F, id, s.c, ops.size, false, pre⟩) rfl hd (B := B) (r := r) (n := n) (Q := Q) ops.toList 0 { s with c := s.c + ops.size } s' h rfl (Nat.le_refl _) X a ⟨hS.T, hS.N, hS.H⟩
    (fun k hk => by have := hu k hk; simp only; omega) (fun Y a' hgo hY => hQ Y a' ⟨hgo.sim, hgo.T, hgo.N, hgo.defers, by have := hgo.c; simp only at this; omega, hgo.u⟩ hY)
  rw [List.range_eq_range']
  simpa using this

/-- Of a code: what its regions must be. -/
def CodeOk (R : Nat → Array Oper → Bool → Prop) : Code → Prop
  | .region id ops dr => R id ops dr
  | .seq a b => CodeOk R a ∧ CodeOk R b
  | .cond _ a b => CodeOk R a ∧ CodeOk R b
  | .block _ b => CodeOk R b
  | .loop b => CodeOk R b
  | .scope b => CodeOk R b
  | .rangeFunc _ _ a b => CodeOk R a ∧ CodeOk R b
  | _ => True

def exE : Ex → Exit
  | .normal => .normal
  | .ret => .ret
  | .exit id => .exit id

def CPost (B N : Nat) (X : Ctx) (s s' : St) (a : Act) (ex : Ex) : Exit → Act → World → Prop := fun e a' w' => e = exE ex ∧ ∃ Y, Y.w = w' ∧ Goes s.c B N X Y s s' a a' ∧ ∀ k, Y.u k → k < s'.c

theorem code_sim {C : Cfg} {E : Env} {F : FuncId} {pre : List Nat} {m : Nat} {N B : Nat} {r : Option Nat} {n : Nat} : ∀ (c : Code), CodeOk (RegionOk C E F N) c → ∀ (s s' : St) (ex : Ex), code C E F pre m c s = some (ex, s') → ∀ (X : Ctx) (a : Act), SRel X B N s a → (∀ k, X.u k → k < s.c) →
    c.wpIn (FR r) n C.P (CPost B N X s s' a ex) a X.w
  | .skip, _, s, s', ex, h, X, a, hS, hu => by
    simp only [code, Option.some.injEq, Prod.mk.injEq] at h
    obtain ⟨rfl, rfl⟩ := h
    exact wpIn_skip ⟨rfl, X, rfl, Goes.refl hS, hu⟩
  | .label l, _, s, s', ex, h, X, a, hS, hu => by
    simp only [code, Option.some.injEq, Prod.mk.injEq] at h
    obtain ⟨rfl, rfl⟩ := h
    exact wpIn_label ⟨rfl, X, rfl, Goes.refl hS, hu⟩
  | .exit id, _, s, s', ex, h, X, a, hS, hu => by
    simp only [code, Option.some.injEq, Prod.mk.injEq] at h
    obtain ⟨rfl, rfl⟩ := h
    exact wpIn_exit ⟨rfl, X, rfl, Goes.refl hS, hu⟩
  | .ret, _, s, s', ex, h, X, a, hS, hu => by
    simp only [code, Option.some.injEq, Prod.mk.injEq] at h
    obtain ⟨rfl, rfl⟩ := h
    exact wpIn_ret ⟨rfl, X, rfl, Goes.refl hS, hu⟩
  | .region id ops dr, hR, s, s', ex, h, X, a, hS, hu => by
    simp only [code] at h
    split at h
    · next s1 h1 =>
      simp only [Option.some.injEq, Prod.mk.injEq] at h
      obtain ⟨rfl, rfl⟩ := h
      exact hR pre s s1 h1 r n X B a _ hS hu fun Y a' hgo hY => ⟨rfl, Y, rfl, hgo, hY⟩
    · cases h
  | .seq x y, hR, s, s', ex, h, X, a, hS, hu => by
    simp only [code] at h
    refine wpIn_seq ?_
    split at h
    · next s1 h1 =>
      refine wpIn_mono (code_sim x hR.1 s s1 .normal h1 X a hS hu) fun e a1 w1 hq => ?_
      obtain ⟨rfl, Y, rfl, hgo, hY⟩ := hq
      refine wpIn_mono (code_sim y hR.2 s1 s' ex h Y a1 hgo.srel hY) fun e a2 w2 hq => ?_
      obtain ⟨rfl, Z, rfl, hgo', hZ⟩ := hq
      exact ⟨rfl, Z, rfl, hgo.trans hgo' hgo.c, hZ⟩
    · next hne =>
      refine wpIn_mono (code_sim x hR.1 s s' ex h X a hS hu) fun e a1 w1 hq => ?_
      have hq' := hq
      obtain ⟨rfl, _⟩ := hq'
      cases ex with
      | normal => exact absurd h (hne s')
      | ret => exact hq
      | exit id => exact hq
  | .cond c x y, hR, s, s', ex, h, X, a, hS, hu => by
    simp only [code] at h
    have hx := opd_rel hS.T c
    split at h
    · next hc =>
      rw [hc] at hx
      exact wpIn_cond_true (rel_bool hx) (code_sim x hR.1 s s' ex h X a hS hu)
    · next hc =>
      rw [hc] at hx
      exact wpIn_cond_false (rel_bool hx) (code_sim y hR.2 s s' ex h X a hS hu)
    · cases h
  | .block id b, hR, s, s', ex, h, X, a, hS, hu => by
    simp only [code] at h
    refine wpIn_block ?_
    split at h
    · next i s1 h1 =>
      refine wpIn_mono (code_sim b hR s s1 (.exit i) h1 X a hS hu) fun e a1 w1 hq => ?_
      obtain ⟨rfl, hq⟩ := hq
      simp only [exE, Exit.inBlock]
      split at h
      · next hi =>
        simp only [Option.some.injEq, Prod.mk.injEq] at h
        obtain ⟨rfl, rfl⟩ := h
        rw [if_pos hi]
        exact ⟨rfl, hq⟩
      · next hi =>
        simp only [Option.some.injEq, Prod.mk.injEq] at h
        obtain ⟨rfl, rfl⟩ := h
        rw [if_neg hi]
        exact ⟨rfl, hq⟩
    · next hne =>
      refine wpIn_mono (code_sim b hR s s' ex h X a hS hu) fun e a1 w1 hq => ?_
      have hq' := hq
      obtain ⟨rfl, _⟩ := hq'
      cases ex with
      | normal => exact hq
      | ret => exact hq
      | exit id => exact absurd h (hne id s')
  | .loop b, hR, s, s', ex, h, X, a, hS, hu => by
    simp only [code] at h
    refine wpIn_loop_rounds m ?_
    have key : ∀ (j : Nat) (s : St), loopN (code C E F pre m b) j s = some (ex, s') → ∀ (Y : Ctx) (a1 : Act) (s0 : St), Goes s0.c B N X Y s0 s a a1 → s0.heap = s0.heap → (∀ k, Y.u k → k < s.c) → s0 = s0 → Code.roundsIn (FR r) n C.P b (CPost B N X s0 s' a ex) j a1 Y.w := by
      intro j
      induction j with
      | zero => intro s h; simp [loopN] at h
      | succ j ih =>
        intro s h Y a1 s0 hgo _ hY _
        rw [roundsIn_succ]
        simp only [loopN] at h
        split at h
        · next s1 h1 =>
          refine wpIn_mono (code_sim b hR s s1 .normal h1 Y a1 hgo.srel hY) fun e a2 w2 hq => ?_
          obtain ⟨rfl, Z, rfl, hgo', hZ⟩ := hq
          exact ih s1 h Z a2 s0 (hgo.trans hgo' hgo.c) rfl hZ rfl
        · next hne =>
          refine wpIn_mono (code_sim b hR s s' ex h Y a1 hgo.srel hY) fun e a2 w2 hq => ?_
          obtain ⟨rfl, Z, rfl, hgo', hZ⟩ := hq
          cases ex with
          | normal => exact absurd h (hne s')
          | ret => exact ⟨rfl, Z, rfl, hgo.trans hgo' hgo.c, hZ⟩
          | exit id => exact ⟨rfl, Z, rfl, hgo.trans hgo' hgo.c, hZ⟩
    exact key m s h X a s (Goes.refl hS) rfl hu rfl
  | .rangeFunc .., hR, s, s', ex, h, X, a, hS, hu => by simp [code] at h
  | .scope b, hR, s, s', ex, h, X, a, hS, hu => by
    simp only [code] at h
    refine wpIn_scope (wpIn_mono (code_sim b hR s s' ex h X a hS hu) fun e a1 w1 hq => ?_)
    have hq' := hq
    obtain ⟨rfl, _⟩ := hq'
    cases ex with
    | normal => exact hq
    | ret => exact hq
    | exit id => exact hq
  | .goto l, hR, s, s', ex, h, X, a, hS, hu => by simp [code] at h
  | .refuse w, hR, s, s', ex, h, X, a, hS, hu => by simp [code] at h
end Go.Pv
/- What values stand for, where a block that holds no cells is turned. Conditions: as each lemma says. -/
namespace Go.Pv
open Go.RowKit

section
variable {Φ Ψ : Nat → Prop} {w w' : World} (hΦ : ∀ b, Φ b → (∃ cs el f, w.heap[b]? = some (.cells cs el f)) → Ψ b ∧ w'.heap[b]? = w.heap[b]?)
include hΦ
mutual
theorem RelT.turn : ∀ (t : T) (v : Value), RelT Φ w t v → RelT Ψ w' t v
  | .bool _, _, h => h
  | .int _ _, _, h => h
  | .str _, _, h => h
  | .vec es, v, h => by
    simp only [RelT] at h ⊢
    obtain ⟨a, cap, hv, hc, h⟩ := h
    refine ⟨a, cap, hv, hc, ?_⟩
    rcases h with h | ⟨b, o, sz, ha, hb, hr⟩
    · exact Or.inl h
    · cases es with
      | nil => exact Or.inl rfl
      | cons e es =>
        have hc : ∃ cs el f, w.heap[b]? = some (.cells cs el f) := by
          simp only [RelRow] at hr
          obtain ⟨⟨x, _, _, _, cs, el, f, h1, _⟩, _⟩ := hr
          exact ⟨cs, el, f, h1⟩
        exact Or.inr ⟨b, o, sz, ha, (hΦ b hb hc).1, RelRow.turn b sz (hΦ b hb hc).2 (e :: es) o hr⟩
  | .agg cs, v, h => by
    simp only [RelT] at h ⊢
    obtain ⟨vs, hv, h⟩ := h
    exact ⟨vs, hv, RelCs.turn cs _ h⟩
  | .tup cs, v, h => by
    simp only [RelT] at h ⊢
    obtain ⟨vs, hv, h⟩ := h
    exact ⟨vs, hv, RelTs.turn cs _ h⟩
  | .fn f fi, v, h => by
    simp only [RelT] at h ⊢
    obtain ⟨vs, hv, h⟩ := h
    exact ⟨vs, hv, RelTs.turn fi _ h⟩
  | .iface t x, v, h => by
    simp only [RelT] at h ⊢
    obtain ⟨y, hv, h⟩ := h
    exact ⟨y, hv, RelT.turn x y h⟩
  | .nilptr, _, h => h
  | .nilfn, _, h => h
  | .nilif, _, h => h
theorem RelTs.turn : ∀ (ts : List T) (vs : List Value), RelTs Φ w ts vs → RelTs Ψ w' ts vs
  | [], _, h => (fun _ => h) hΦ
  | t :: ts, vs, h => by
    simp only [RelTs] at h ⊢
    obtain ⟨v, vs', hv, h1, h2⟩ := h
    exact ⟨v, vs', hv, RelT.turn t v h1, RelTs.turn ts vs' h2⟩
theorem RelCs.turn : ∀ (ts : List T) (vs : List Value), RelCs Φ w ts vs → RelCs Ψ w' ts vs
  | [], _, h => (fun _ => h) hΦ
  | t :: ts, vs, h => by
    simp only [RelCs] at h ⊢
    obtain ⟨v, vs', hv, h1, h2, h3⟩ := h
    exact ⟨v, vs', hv, RelT.turn t v h1, h2, RelCs.turn ts vs' h3⟩
theorem RelRow.turn (b sz : Nat) (hb : w'.heap[b]? = w.heap[b]?) : ∀ (ts : List T) (o : Nat), RelRow Φ w b sz ts o → RelRow Ψ w' b sz ts o
  | [], _, h => (fun _ => h) hΦ
  | t :: ts, o, h => by
    simp only [RelRow] at h ⊢
    obtain ⟨⟨x, h1, h2, h3, h4⟩, h5⟩ := h
    exact ⟨⟨x, RelT.turn t x h1, h2, h3, h4.of_same hb⟩, RelRow.turn b sz hb ts _ h5⟩
end
end

section
variable {X Y : Ctx} (hΦ : ∀ b, X.Φ b → (∃ cs el f, X.w.heap[b]? = some (.cells cs el f)) → Y.Φ b ∧ Y.w.heap[b]? = X.w.heap[b]?) (hu : ∀ g, X.u g → Y.u g) (hμ : ∀ p g, X.u g → Y.μ p g = X.μ p g) (hroom : ∀ b n, room X.w b n → room Y.w b n)
include hΦ hu hμ hroom
mutual
theorem RelV.turn : ∀ (t : V) (v : Value), RelV X t v → RelV Y t v
  | .t x, v, h => by simp only [RelV] at h ⊢; exact RelT.turn hΦ x v h
  | .ref p g i o, v, h => by
    simp only [RelV] at h ⊢
    obtain ⟨hg, a, hv, h⟩ := h
    exact ⟨hu g hg, a, hv, fun b o' sz hm => h b o' sz ((hμ p g hg).symm.trans hm)⟩
  | .vref y o, v, h => by
    simp only [RelV] at h ⊢
    obtain ⟨b, o', hv, hb, x, h1, h2, h3⟩ := h
    have hc : ∃ cs el f, X.w.heap[b]? = some (.cells cs el f) := by
      obtain ⟨cs, el, f, g1, _⟩ := h3
      exact ⟨cs, el, f, g1⟩
    exact ⟨b, o', hv, (hΦ b hb hc).1, x, RelV.turn y x h1, h2, h3.of_same (hΦ b hb hc).2⟩
  | .own p g o n s, v, h => by
    simp only [RelV] at h ⊢
    obtain ⟨hg, a, cap, hv, hn, h0, h1, h2⟩ := h
    refine ⟨hu g hg, a, cap, hv, hn, h0, fun hm => h1 ((hμ p g hg).symm.trans hm), fun b o' sz hm => ?_⟩
    obtain ⟨q0, h2⟩ := h2 b o' sz ((hμ p g hg).symm.trans hm)
    exact ⟨q0, h2.imp id fun ⟨q, r⟩ => ⟨q, hroom _ _ r⟩⟩
  | .cap0, _, h => by simp only [RelV] at h ⊢; exact h
  | .vec es, v, h => by
    simp only [RelV] at h ⊢
    obtain ⟨a, hv, h⟩ := h
    refine ⟨a, hv, ?_⟩
    rcases h with h | ⟨b, o, sz, ha, hb, hr⟩
    · exact Or.inl h
    · cases es with
      | nil => exact Or.inl rfl
      | cons e es =>
        have hc : ∃ cs el f, X.w.heap[b]? = some (.cells cs el f) := by
          simp only [RowV] at hr
          obtain ⟨⟨x, _, _, _, _, cs, el, f, h1, _⟩, _⟩ := hr
          exact ⟨cs, el, f, h1⟩
        exact Or.inr ⟨b, o, sz, ha, (hΦ b hb hc).1, RowV.turn b sz (hΦ b hb hc).2 (e :: es) o hr⟩
  | .agg cs, v, h => by
    simp only [RelV] at h ⊢
    obtain ⟨vs, hv, h⟩ := h
    exact ⟨vs, hv, RelCsV.turn cs _ h⟩
  | .tup cs, v, h => by
    simp only [RelV] at h ⊢
    obtain ⟨vs, hv, h⟩ := h
    exact ⟨vs, hv, RelVs.turn cs _ h⟩
  | .fn f fi ca, v, h => by
    simp only [RelV] at h ⊢
    obtain ⟨a, b, hv, h1, h2⟩ := h
    exact ⟨a, b, hv, RelVs.turn fi _ h1, RelVs.turn ca _ h2⟩
  | .mp p g, v, h => by
    simp only [RelV] at h ⊢
    obtain ⟨hg, r, hv, h⟩ := h
    exact ⟨hu g hg, r, hv, fun b o sz hm => h b o sz ((hμ p g hg).symm.trans hm)⟩
  | .it p g, v, h => by
    simp only [RelV] at h ⊢
    obtain ⟨hg, r, sp, hv, h⟩ := h
    exact ⟨hu g hg, r, sp, hv, fun b o sz hm => h b o sz ((hμ p g hg).symm.trans hm)⟩
  | .undef, _, h => by simp only [RelV] at h ⊢; exact h
  | .junk, _, _ => by simp only [RelV]
theorem RelVs.turn : ∀ (ts : List V) (vs : List Value), RelVs X ts vs → RelVs Y ts vs
  | [], _, h => (fun _ _ _ _ => h) hΦ hu hμ hroom
  | t :: ts, vs, h => by
    simp only [RelVs] at h ⊢
    obtain ⟨v, vs', hv, h1, h2⟩ := h
    exact ⟨v, vs', hv, RelV.turn t v h1, RelVs.turn ts vs' h2⟩
theorem RelCsV.turn : ∀ (ts : List V) (vs : List Value), RelCsV X ts vs → RelCsV Y ts vs
  | [], _, h => (fun _ _ _ _ => h) hΦ hu hμ hroom
  | t :: ts, vs, h => by
    simp only [RelCsV] at h ⊢
    obtain ⟨v, vs', hv, h1, h2, h3⟩ := h
    exact ⟨v, vs', hv, RelV.turn t v h1, h2, RelCsV.turn ts vs' h3⟩
theorem RowV.turn (b sz : Nat) (hb : Y.w.heap[b]? = X.w.heap[b]?) : ∀ (ts : List V) (o : Nat), RowV X b sz ts o → RowV Y b sz ts o
  | [], _, h => (fun _ _ _ _ => h) hΦ hu hμ hroom
  | t :: ts, o, h => by
    simp only [RowV] at h ⊢
    obtain ⟨⟨x, h1, h0, h2, h3, h4⟩, h5⟩ := h
    exact ⟨⟨x, RelV.turn t x h1, h0, h2, h3, h4.of_same hb⟩, RowV.turn b sz hb ts _ h5⟩
end
end

theorem ObRel.turn {X Y : Ctx} {B : Nat} {l : Option Loc} {ob : Ob} (hΦ : ∀ b, X.Φ b → (∃ cs el f, X.w.heap[b]? = some (.cells cs el f)) → Y.Φ b ∧ Y.w.heap[b]? = X.w.heap[b]?) (hu : ∀ g, X.u g → Y.u g) (hμ : ∀ p g, X.u g → Y.μ p g = X.μ p g) (hroom : ∀ b n, room X.w b n → room Y.w b n)
    (hΦ' : ∀ b, Y.Φ b → X.Φ b) (hs : ∀ b o s, l = some (.blk b o s) → Y.w.heap[b]? = X.w.heap[b]?) (h : ObRel X B l ob) : ObRel Y B l ob := by
  obtain ⟨fz, o⟩ := ob
  cases o with
  | row es =>
    cases l with
    | none => exact h.elim
    | some l => cases l with
      | virt => exact h
      | blk b o s =>
        obtain ⟨h0, h1, h2, h3, cs, el, f, h4, h5⟩ := h
        have e1 := hs b o s rfl
        exact ⟨hroom _ _ h0, h1, fun hb => h2 (hΦ' b hb), RowV.turn hΦ hu hμ hroom b s e1 es o h3, cs, el, f, e1.trans h4, h5⟩
  | mp k es =>
    cases l with
    | none => exact h.elim
    | some l => cases l with
      | virt => exact h.elim
      | blk b o s =>
        obtain ⟨h1, h2, l, clock, h3, h4, h5⟩ := h
        have e1 := hs b o s rfl
        refine ⟨h1, fun hb => h2 (hΦ' b hb), l, clock, e1.trans h3, h4, fun n => ?_⟩
        have := h5 n
        split at this
        · obtain ⟨e, i, g1, g2, g3, g4⟩ := this
          exact ⟨e, i, g1, g2, g3, RelV.turn hΦ hu hμ hroom _ _ g4⟩
        · exact this
  | it s pos =>
    cases l with
    | none => exact h.elim
    | some l => cases l with
      | virt => exact h.elim
      | blk b o s' =>
        obtain ⟨h1, h2, h3⟩ := h
        exact ⟨h1, fun hb => h2 (hΦ' b hb), (hs b o s' rfl).trans h3⟩

/-- A context whose world is turned at one block. -/
def Ctx.turn (Y : Ctx) (row : Option Nat) (W : World) : Ctx := ⟨fun b => Y.Φ b ∧ row ≠ some b, Y.μ, Y.u, W⟩

section
variable {Y : Ctx} {B : Nat} {h : Heap} {row : Option Nat} {W : World} (hg : Y.w.grownBy W row) (hc : ∀ r, row = some r → ∃ o : Obj, Y.w.heap[r]? = some o ∧ o.isCells = false)
include hg hc
theorem turn_cells {b : Nat} (hb : ∃ cs el f, Y.w.heap[b]? = some (.cells cs el f)) : row ≠ some b ∧ W.heap[b]? = Y.w.heap[b]? := by
  obtain ⟨cs, el, f, hb⟩ := hb
  have hne : row ≠ some b := by
    intro hr
    obtain ⟨o, h1, h2⟩ := hc b hr
    rw [hb] at h1
    simp only [Option.some.injEq] at h1; subst h1
    cases h2
  exact ⟨hne, hg.block b (lt_of_heap hb) (Ne.symm hne)⟩
theorem turn_Φ : ∀ b, Y.Φ b → (∃ cs el f, Y.w.heap[b]? = some (.cells cs el f)) → (Y.turn row W).Φ b ∧ (Y.turn row W).w.heap[b]? = Y.w.heap[b]? := fun b hb hb' =>
  ⟨⟨hb, (turn_cells hg hc hb').1⟩, (turn_cells hg hc hb').2⟩
theorem turn_room : ∀ b n, room Y.w b n → room (Y.turn row W).w b n := by
  intro b n hb
  obtain ⟨cs, el, f, h1, h2⟩ := hb
  exact ⟨cs, el, f, (turn_cells hg hc ⟨cs, el, f, h1⟩).2.trans h1, h2⟩
theorem turn_relV {v : V} {x : Value} (hv : RelV Y v x) : RelV (Y.turn row W) v x := RelV.turn (turn_Φ hg hc) (fun _ hk => hk) (fun _ _ _ => rfl) (turn_room hg hc) v x hv
theorem turn_hrel (hr : HRel Y B h) (ho : ∀ r, row = some r → ¬ Owned Y h r) : HRel (Y.turn row W) B h := by
  refine ⟨fun p g x hx => ⟨(hr.ob p g x hx).1, ?_⟩, fun p g x q k y b o s o' s' hx hy m1 m2 => hr.inj p g x q k y b o s o' s' hx hy m1 m2, fun b hb => Nat.lt_of_lt_of_le (hr.old b hb.1) hg.size, Nat.le_trans hr.base hg.size⟩
  have h2 := (hr.ob p g x hx).2
  refine ObRel.turn (turn_Φ hg hc) (fun _ hk => hk) (fun _ _ _ => rfl) (turn_room hg hc) (fun b hb => hb.1) (fun b o s hl => ?_) h2
  refine hg.block b ?_ (fun hh => ho b hh.symm ⟨p, g, x, o, s, hx, hl⟩)
  have hl' : Y.μ p g = some (.blk b o s) := hl
  rw [hl'] at h2
  exact ObRel.lt h2
theorem turn_sim {X : Ctx} {h0 : Heap} (hX : HRel X B h0) (hs : Sim B X Y h0 h) (ho : ∀ r, row = some r → ¬ Owned Y h r) (hlow : ∀ r, row = some r → X.w.heap.size ≤ r) : Sim B X (Y.turn row W) h0 h := by
  have hΦne : ∀ b, X.Φ b → row ≠ some b := fun b hb hh => by
    have h1 := hX.old b hb
    have h2 := hlow b hh
    omega
  have hsz := hs.grow.below.size
  refine ⟨⟨⟨fun b hb => ⟨hs.grow.ext.Φ b hb, hΦne b hb⟩, hs.grow.ext.u, hs.grow.ext.μ, fun b hb => ?_, fun b n hb => turn_room hg hc b n (hs.grow.ext.room b n hb)⟩, hs.grow.below.grown hg (Nat.le_trans hX.base hsz) (fun k hk => Nat.le_trans hX.base (hlow k hk)), fun b hb => hs.grow.Φ b hb.1⟩,
    turn_hrel hg hc hs.rel ho, fun b hb hn => ?_, fun b hb => hs.newΦ b hb.1, fun b hb => hs.own b hb⟩
  · exact (hg.block b (Nat.lt_of_lt_of_le (hX.old b hb) hsz) (Ne.symm (hΦne b hb))).trans (hs.grow.ext.same b hb)
  · refine (hg.block b (Nat.lt_of_lt_of_le hb hsz) (fun hh => ?_)).trans (hs.frame b hb hn)
    have := hlow b hh.symm
    omega
end
end Go.Pv
/- A function's own code, loops over functions among it. Conditions: as each lemma says. -/
namespace Go.Pv
open Go.RowKit

def mark (D : Nat) : Deferred := { target := .collected D, args := #[] }
/-- Blocks that keep a loop's deferred calls: none of ours; they hold none. -/
structure MarksOk (n0 : Nat) (Y : Ctx) (h : Heap) (Ds : List Nat) : Prop where
  desc : Ds.Pairwise (fun D D' => D' < D)
  low : ∀ D ∈ Ds, n0 ≤ D
  high : ∀ D ∈ Ds, D < Y.w.heap.size
  free : ∀ D ∈ Ds, ¬ Owned Y h D
  here : ∀ D ∈ Ds, Y.w.heap[D]? = some (.deferred (some []))
structure GoesT (c0 B N : Nat) (X Y : Ctx) (s s' : St) (a a' : Act) : Prop where
  sim : Sim B X Y s.heap s'.heap
  T : TRel Y s'.tmps a'
  N : a'.tmps.size = N
  marks : ∃ Ds, a'.defers = Ds.map mark ++ a.defers ∧ MarksOk X.w.heap.size Y s'.heap Ds
  c : s.c ≤ s'.c
  u : ∀ k, Y.u k → X.u k ∨ (c0 ≤ k ∧ k < s'.c)
theorem GoesT.srel {c0 B N : Nat} {X Y : Ctx} {s s' : St} {a a' : Act} (h : GoesT c0 B N X Y s s' a a') : SRel Y B N s' a' := ⟨h.T, h.N, h.sim.rel⟩
theorem Goes.top {c0 B N : Nat} {X Y : Ctx} {s s' : St} {a a' : Act} (h : Goes c0 B N X Y s s' a a') : GoesT c0 B N X Y s s' a a' :=
  ⟨h.sim, h.T, h.N, ⟨[], by simp [h.defers], ⟨List.Pairwise.nil, by simp, by simp, by simp, by simp⟩⟩, h.c, h.u⟩
theorem MarksOk.move {n0 B : Nat} {Y Z : Ctx} {h h' : Heap} {Ds : List Nat} (hm : MarksOk n0 Y h Ds) (hs : Sim B Y Z h h') : MarksOk n0 Z h' Ds :=
  ⟨hm.desc, hm.low, fun D hD => Nat.lt_of_lt_of_le (hm.high D hD) hs.grow.below.size, fun D hD ho => (hs.own D ho).elim (hm.free D hD) (fun hh => by have := hm.high D hD; omega),
    fun D hD => (hs.frame D (hm.high D hD) (hm.free D hD)).trans (hm.here D hD)⟩
theorem GoesT.trans {c0 c1 B N : Nat} {X Y Z : Ctx} {s s' s'' : St} {a a' a'' : Act} (h : GoesT c0 B N X Y s s' a a') (k : GoesT c1 B N Y Z s' s'' a' a'') (hle : c0 ≤ c1) : GoesT c0 B N X Z s s'' a a'' := by
  obtain ⟨Ds, e1, m1⟩ := h.marks
  obtain ⟨Ds', e2, m2⟩ := k.marks
  have m1' := m1.move k.sim
  have hsz := h.sim.grow.below.size
  refine ⟨h.sim.trans k.sim, k.T, k.N, ⟨Ds' ++ Ds, by rw [e2, e1]; simp, ?_⟩, Nat.le_trans h.c k.c, fun j hj => ?_⟩
  · refine ⟨List.pairwise_append.2 ⟨m2.desc, m1.desc, fun D hD D' hD' => Nat.lt_of_lt_of_le (m1.high D' hD') (m2.low D hD)⟩, fun D hD => ?_, fun D hD => ?_, fun D hD => ?_, fun D hD => ?_⟩
    · rcases List.mem_append.1 hD with h | h
      · exact Nat.le_trans hsz (m2.low D h)
      · exact m1.low D h
    · rcases List.mem_append.1 hD with h | h
      · exact m2.high D h
      · exact m1'.high D h
    · rcases List.mem_append.1 hD with h | h
      · exact m2.free D h
      · exact m1'.free D h
    · rcases List.mem_append.1 hD with h | h
      · exact m2.here D h
      · exact m1'.here D h
  · rcases k.u j hj with h1 | ⟨h1, h2⟩
    · rcases h.u j h1 with h3 | ⟨h3, h4⟩
      · exact Or.inl h3
      · exact Or.inr ⟨h3, Nat.lt_of_lt_of_le h4 k.c⟩
    · exact Or.inr ⟨Nat.le_trans hle h1, h2⟩

/-- What the iterators are: each comes to one round, with these values. -/
def IterOk (C : Cfg) : Prop := ∀ k h ca x, C.iter k h ca = some x → Enters C.P k ∧ ∀ (X : Ctx) (B : Nat) (lb : Array Value), HRel X B h → RelVs X ca lb.toList →
  ∃ vals : Array Value, RelVs X (x.map .t) vals.toList ∧ SeqStopsK (FR none) 1 C.P k lb (fun (_ : Unit) => vals) (fun W W' => ∀ b, b < X.w.heap.size → W'.heap[b]? = W.heap[b]?) (fun xs => xs = [()]) (fun _ => True) 1 X.w

theorem ro_of {h : Heap} {p : List Nat} {g : Nat} {x : Ob} (hx : h.ro p g = some x) : ∃ fz es, h p g = some ⟨fz, .row es⟩ ∧ x = ⟨true, .row es⟩ := by
  unfold Heap.ro at hx
  split at hx
  · next fz es he =>
    simp only [Option.some.injEq] at hx
    exact ⟨fz, es, he, hx.symm⟩
  · cases hx
theorem rows_of {h : Heap} {p : List Nat} {g : Nat} {x : Ob} (hx : h.rows p g = some x) : h p g = some x ∧ ∃ es, x.o = .row es := by
  unfold Heap.rows at hx
  split at hx
  · next fz es he =>
    simp only [Option.some.injEq] at hx
    subst hx
    exact ⟨he, es, rfl⟩
  · cases hx

theorem hrel_below {X : Ctx} {B : Nat} {h : Heap} (hr : HRel X B h) {W : World} (hb : Below X.w.heap.size X.w W) : HRel ⟨X.Φ, X.μ, X.u, W⟩ B h := by
  have hE : Ext X ⟨X.Φ, X.μ, X.u, W⟩ := ext_below hr.old (fun _ h => h) hb
  refine ⟨fun p g x hx => ⟨(hr.ob p g x hx).1, ?_⟩, fun p g x q k y b o s o' s' hx hy m1 m2 => hr.inj p g x q k y b o s o' s' hx hy m1 m2, fun b hb' => Nat.lt_of_lt_of_le (hr.old b hb') hb.size, Nat.le_trans hr.base hb.size⟩
  have h2 := (hr.ob p g x hx).2
  refine ObRel.mono hE (fun b o s hl => ⟨hb.block b ?_, Or.inl⟩) h2
  rw [hl] at h2
  exact ObRel.lt h2
theorem sim_below {X : Ctx} {B : Nat} {h : Heap} (hr : HRel X B h) {W : World} (hb : Below X.w.heap.size X.w W) : Sim B X ⟨X.Φ, X.μ, X.u, W⟩ h h :=
  ⟨⟨ext_below hr.old (fun _ h => h) hb, hb.mono hr.base, fun _ hb => Or.inl hb⟩, hrel_below hr hb, fun b hlt _ => hb.block b hlt, fun _ hb => Or.inl hb, fun _ hb => Or.inl hb⟩
/-- All rows frozen. -/
def Ctx.ro (X : Ctx) (h : Heap) : Ctx := ⟨fun b => X.Φ b ∨ Owned X h.ro b, X.μ, X.u, X.w⟩
theorem ext_ro (X : Ctx) (h : Heap) : Ext X (X.ro h) := ⟨fun _ hb => Or.inl hb, fun _ hk => hk, fun _ _ _ => rfl, fun _ _ => rfl, fun _ _ hb => hb⟩
theorem owned_ro {X : Ctx} {h : Heap} {b : Nat} (ho : Owned X h.ro b) : Owned X h b := by
  obtain ⟨p, g, x, o, s, h1, h2⟩ := ho
  obtain ⟨fz, es, h3, _⟩ := ro_of h1
  exact ⟨p, g, _, o, s, h3, h2⟩
theorem hrel_ro {X : Ctx} {B : Nat} {h : Heap} (hr : HRel X B h) : HRel (X.ro h) B h.ro := by
  refine ⟨fun p g x hx => ?_, fun p g x q k y b o s o' s' hx hy m1 m2 => ?_, fun b hb => ?_, hr.base⟩
  · obtain ⟨fz, es, h1, rfl⟩ := ro_of hx
    obtain ⟨k1, k2⟩ := hr.ob p g _ h1
    refine ⟨k1, ?_⟩
    show ObRel (X.ro h) B (X.μ p g) _
    cases hl : X.μ p g with
    | none => rw [hl] at k2; exact k2.elim
    | some l =>
      rw [hl] at k2
      cases l with
      | virt => exact k2
      | blk b o s =>
        obtain ⟨h0, h1, h2, h3, cs, el, f, h4, h5⟩ := k2
        exact ⟨h0, h1, fun _ => rfl, RowV.mono (ext_ro X h) b s rfl es o h3, cs, el, f, h4, fun hh => by cases hh⟩
  · obtain ⟨_, _, h1, _⟩ := ro_of hx
    obtain ⟨_, _, h2, _⟩ := ro_of hy
    exact hr.inj p g _ q k _ b o s o' s' h1 h2 m1 m2
  · rcases hb with hb | hb
    · exact hr.old b hb
    · have : b < X.w.heap.size := Owned.lt hr (owned_ro hb)
      exact this

theorem putAll_rel {X : Ctx} : ∀ (ps : List Nat) (vs : List V) (xs : List Value) (ts ts' : Tmps) (tmps : Array Value), putAll ts ps vs = some ts' → RelVs X vs xs → (∀ p ∈ ps, p < tmps.size) → (∀ t, RelV X (ts t) (tmps.getD t undef)) →
    xs.length = ps.length ∧ ((ps.zip xs).foldl (fun t (pv : Nat × Value) => t.setIfInBounds pv.1 pv.2) tmps).size = tmps.size ∧ ∀ t, RelV X (ts' t) (((ps.zip xs).foldl (fun t (pv : Nat × Value) => t.setIfInBounds pv.1 pv.2) tmps).getD t undef)
  | [], [], xs, ts, ts', tmps, h, hv, _, hT => by
    simp only [putAll, Option.some.injEq] at h; subst h
    simp only [RelVs] at hv; subst hv
    exact ⟨rfl, rfl, hT⟩
  | p :: ps, v :: vs, xs, ts, ts', tmps, h, hv, hp, hT => by
    simp only [putAll] at h
    simp only [RelVs] at hv
    obtain ⟨x, xs', rfl, h1, h2⟩ := hv
    have hlt := hp p (by simp)
    obtain ⟨k0, k1, k2⟩ := putAll_rel ps vs xs' _ ts' (tmps.setIfInBounds p x) h h2 (fun q hq => by simpa using hp q (by simp [hq])) (fun t => by
      simp only [Tmps.upd, Array.getD_eq_getD_getElem?]
      by_cases ht : t = p
      · subst ht
        simp only [if_true, Array.getElem?_setIfInBounds_self_of_lt hlt, Option.getD_some]
        exact h1
      · rw [if_neg ht, Array.getElem?_setIfInBounds_ne (Ne.symm ht)]
        simpa only [Array.getD_eq_getD_getElem?] using hT t)
    refine ⟨by simp [k0], ?_, ?_⟩
    · simpa using k1
    · simpa using k2
  | [], _ :: _, xs, ts, ts', tmps, h, _, _, _ => by simp [putAll] at h
  | _ :: _, [], xs, ts, ts', tmps, h, _, _, _ => by simp [putAll] at h

theorem kept_ro {X Y : Ctx} {B : Nat} {h h' : Heap} {W : World} (hs : Sim B ⟨fun b => X.Φ b ∨ Owned X h.ro b, X.μ, X.u, W⟩ Y h.ro h') {b : Nat} (hb : b < W.heap.size) (hk : X.Φ b ∨ Owned X h.ro b ∨ ¬ Owned X h.ro b) : Y.w.heap[b]? = W.heap[b]? := by
  by_cases ho : Owned X h.ro b
  · exact hs.grow.ext.same b (Or.inr ho)
  · exact hs.frame b hb ho

theorem wpIn_some {n : Nat} {P : Program} {c : Code} {Q : Exit → Act → World → Prop} {a : Act} {w : World} (h : c.wpIn (FR none) n P Q a w) : ∃ e a' w', Q e a' w' := by
  obtain ⟨e, a', w', hq, _⟩ := h { (default : Frame) with roundOf := none } [] [] rfl trivial (fun d hd => by cases hd)
  exact ⟨e, a', w', hq⟩

theorem goes_c {C : Cfg} {E : Env} {F : FuncId} {pre : List Nat} {m N B : Nat} {c : Code} (hok : CodeOk (RegionOk C E F N) c) {s s' : St} {ex : Ex} (h : code C E F pre m c s = some (ex, s')) {X : Ctx} {a : Act} (hS : SRel X B N s a) (hu : ∀ k, X.u k → k < s.c) :
    ∃ Y a', Goes s.c B N X Y s s' a a' ∧ ∀ k, Y.u k → k < s'.c := by
  obtain ⟨e, a', w', hq⟩ := wpIn_some (code_sim (r := none) (n := 0) c hok s s' ex h X a hS hu)
  obtain ⟨_, Y, _, hgo, hY⟩ := hq
  exact ⟨Y, a', hgo, hY⟩

def CPostT (B N : Nat) (X : Ctx) (s s' : St) (a : Act) (ex : Ex) : Exit → Act → World → Prop := fun e a' w' => e = exE ex ∧ ∃ Y, Y.w = w' ∧ GoesT s.c B N X Y s s' a a' ∧ ∀ k, Y.u k → k < s'.c
theorem CPost.top {B N : Nat} {X : Ctx} {s s' : St} {a : Act} {ex : Ex} {e : Exit} {a' : Act} {w' : World} (h : CPost B N X s s' a ex e a' w') : CPostT B N X s s' a ex e a' w' := by
  obtain ⟨rfl, Y, rfl, hgo, hY⟩ := h
  exact ⟨rfl, Y, rfl, hgo.top, hY⟩
theorem GoesT.refl {c0 B N : Nat} {X : Ctx} {s : St} {a : Act} (h : SRel X B N s a) : GoesT c0 B N X X s s a a := (Goes.refl h).top

theorem rows_cells {Y : Ctx} {B : Nat} {h : Heap} (hr : HRel Y B h.rows) {b : Nat} (ho : Owned Y h.rows b) : ∃ cs el f, Y.w.heap[b]? = some (.cells cs el f) := by
  obtain ⟨p, g, x, o, s, h1, h2⟩ := ho
  obtain ⟨_, es, he⟩ := rows_of h1
  have h3 := (hr.ob p g x h1).2
  rw [h2] at h3
  obtain ⟨fz, oc⟩ := x
  simp only at he
  subst he
  obtain ⟨_, _, _, _, cs, el, f, h4, _⟩ := h3
  exact ⟨cs, el, f, h4⟩

theorem rangeFunc_sim {C : Cfg} {E : Env} {F : FuncId} {pre : List Nat} {m N B : Nat} (hI : IterOk C) (hNf : ∀ fn, C.P.funcs[F]? = some fn → N = fn.ntmps) {f : Operand} {ps : Array Tmp} {a b : Code} (hoka : CodeOk (RegionOk C E F N) a) (hokb : CodeOk (RegionOk C E F N) b)
    {s s' : St} {ex : Ex} (h : codeT C E F pre m (.rangeFunc f ps a b) s = some (ex, s')) {X : Ctx} {act : Act} (hS : SRel X B N s act) (hu : ∀ k, X.u k → k < s.c) :
    (Code.rangeFunc f ps a b).wpIn (FR none) 2 C.P (CPostT B N X s s' act ex) act X.w := by
  simp only [codeT] at h
  split at h
  · next k ca hf =>
    split at h
    · next x hit =>
      split at h
      · next hps =>
        split at h
        · next ts hts =>
          split at h
          · next s1 ha =>
            split at h
            · next s2 hb =>
              simp only [Option.some.injEq, Prod.mk.injEq] at h
              obtain ⟨rfl, rfl⟩ := h
              obtain ⟨hent, hall⟩ := hI k s.heap ca x hit
              have hfv := opd_rel hS.T f
              rw [hf] at hfv
              simp only [RelV, RelVs] at hfv
              obtain ⟨fa, lb, hfe, hfa, hca⟩ := hfv
              have hfa' : fa = #[] := Array.toList_inj.1 (by simpa using hfa)
              subst hfa'
              obtain ⟨vals, hvals, hseq⟩ := hall X B lb hS.H hca
              have hbound : ∀ p ∈ ps.toList, p < act.tmps.size := by
                intro p hp
                unfold psOk at hps
                split at hps
                · next fn hfn =>
                  rw [hS.N, hNf fn hfn]
                  have := List.all_eq_true.1 hps p hp
                  simpa using this
                · cases hps
              obtain ⟨hlen, hsz, hrelT⟩ := putAll_rel ps.toList (x.map .t) vals.toList s.tmps ts act.tmps hts hvals hbound hS.T
              have hfold : (ps.zip vals).foldl (fun t (p, v) => t.setIfInBounds p v) act.tmps = (ps.toList.zip vals.toList).foldl (fun t (pv : Nat × Value) => t.setIfInBounds pv.1 pv.2) act.tmps := by
                rw [← Array.foldl_toList, Array.toList_zip]
              have hro := hrel_ro hS.H
              have atW : ∀ W, Below X.w.heap.size X.w W → SRel ⟨fun b => X.Φ b ∨ Owned X s.heap.ro b, X.μ, X.u, W⟩ B N ⟨ts, s.heap.ro, s.c⟩ { tmps := (ps.zip vals).foldl (fun t (p, v) => t.setIfInBounds p v) act.tmps, defers := [] } := by
                intro W hW
                have hE : Ext X ⟨fun b => X.Φ b ∨ Owned X s.heap.ro b, X.μ, X.u, W⟩ := (ext_ro X s.heap).trans (ext_below (X := X.ro s.heap) hro.old (fun _ h => h) hW)
                refine ⟨fun t => ?_, ?_, hrel_below (X := X.ro s.heap) hro hW⟩
                · show RelV _ (ts t) (((ps.zip vals).foldl (fun t (p, v) => t.setIfInBounds p v) act.tmps).getD t undef)
                  rw [hfold]
                  exact RelV.mono hE _ _ (hrelT t)
                · show ((ps.zip vals).foldl (fun t (p, v) => t.setIfInBounds p v) act.tmps).size = N
                  rw [hfold, hsz, hS.N]
              have own_low : ∀ bk, Owned X s.heap.ro bk → bk < X.w.heap.size := fun bk ho => Owned.lt hS.H (owned_ro ho)
              have hcle : s.c ≤ s2.c := by
                obtain ⟨Y1, a1, hg1, hY1⟩ := goes_c hoka ha (atW X.w (Below.refl _ _)) hu
                have hc1 := hg1.c
                obtain ⟨Y2, a2, hg2, _⟩ := goes_c hokb hb (X := Y1) (a := a1) (B := B) ⟨hg1.T, hg1.N, hrel_sub hg1.sim.rel fun p g x hx => (rows_of hx).1⟩ hY1
                have hc2 := hg2.c
                simp only at hc1 hc2
                omega
              refine wpIn_rangeFunc_ownH (α := Unit) (n := 2) rfl (by omega) hfe trivial (fun args w => callFunc_enter hent) (encs := fun _ => vals) (Kp := fun W W' => ∀ b, b < X.w.heap.size → W'.heap[b]? = W.heap[b]?) hseq
                (fun h1 h2 b hb => (h2 b hb).trans (h1 b hb)) (fun W l o o' hl _ _ _ b hb => World.putObj_heap_other (by omega)) (Below.refl _ _) (fun _ => by simpa using hlen)
                (fun _ W => Below X.w.heap.size X.w W) (fun _ _ _ => False) (fun _ W W' row hs hg hr => hs.grown hg hs.size (fun k hk => (hr k hk).1)) (fun _ _ _ _ _ hs _ _ => hs) (Below.refl _ _)
                (fun _ a' W => ∃ Y : Ctx, Y.w = W ∧ HRel Y B s1.heap.rows ∧ TRel Y s1.tmps a' ∧ a'.tmps.size = N ∧ a'.defers = [] ∧ (∀ k, Y.u k → k < s1.c) ∧ ∀ bk, bk < X.w.heap.size → Owned Y s1.heap.rows bk → Y.Φ bk)
                ?_ ?_ ?_ ?_ ?_
              · rintro _ a' _ W W' row ⟨Y, rfl, k1, k2, k3, k4, k5, k6⟩ hg hr
                have hc : ∀ r, row = some r → ∃ o : Obj, Y.w.heap[r]? = some o ∧ o.isCells = false := fun r e => (hr r e).2
                refine ⟨Y.turn row W', rfl, turn_hrel hg hc k1 (fun r e ho => ?_), fun t => turn_relV hg hc (k2 t), k3, k4, k5, fun bk hb ho => ⟨k6 bk hb ho, fun e => ?_⟩⟩
                · exact (turn_cells hg hc (rows_cells k1 ho)).1 e
                · have := (hr bk e).1
                  omega
              · intro l _ _ W K hIW hK
                refine wpIn_mono (code_sim (r := some l) (n := 0) a hoka _ s1 .normal ha _ _ (atW W hIW) hu) fun e a1 W1 hq => ?_
                obtain ⟨rfl, Y, rfl, hgo, hY⟩ := hq
                have low : ∀ bk, bk < X.w.heap.size → Y.w.heap[bk]? = W.heap[bk]? := fun bk hb => by
                  by_cases ho : Owned X s.heap.ro bk
                  · exact hgo.sim.grow.ext.same bk (Or.inr ho)
                  · exact hgo.sim.frame bk (Nat.lt_of_lt_of_le hb hIW.size) ho
                refine hK a1 Y.w ⟨hgo.sim.grow.below.size, fun k o hk ho _ => ?_⟩ low ?_ ⟨Y, rfl, hrel_sub hgo.sim.rel fun p g x hx => (rows_of hx).1, hgo.T, hgo.N, hgo.defers, hY, fun bk hb ho => ?_⟩
                · exact (hgo.sim.frame k (lt_of_heap ho) (fun hh => by have := own_low k hh; omega)).trans ho
                · exact ⟨hgo.sim.grow.below.os.trans hIW.os, hgo.sim.grow.below.tape.trans hIW.tape, hgo.sim.grow.below.output.trans hIW.output, Nat.le_trans hIW.size hgo.sim.grow.below.size, fun bk hb => (low bk hb).trans (hIW.block bk hb)⟩
                · obtain ⟨p, g, y, o, st, h1, h2⟩ := ho
                  rcases hgo.sim.own bk ⟨p, g, y, o, st, (rows_of h1).1, h2⟩ with hh | hh
                  · exact hgo.sim.grow.ext.Φ bk (Or.inr hh)
                  · have h3 := hIW.size
                    have h4 : W.heap.size ≤ bk := hh
                    omega
              · rintro l _ _ a' W hl _ hIW ⟨Y, rfl, k1, k2, k3, k4, k5, k6⟩ _
                refine wpIn_mono (code_sim (r := some l) (n := 0) b hokb ⟨s1.tmps, s1.heap.rows, s1.c⟩ s2 .normal hb Y a' ⟨k2, k3, k1⟩ k5) fun e a2 W2 hq => ?_
                obtain ⟨rfl, Z, rfl, hgo, hZ⟩ := hq
                have low : ∀ bk, bk < X.w.heap.size → Z.w.heap[bk]? = Y.w.heap[bk]? := fun bk hb => by
                  by_cases ho : Owned Y s1.heap.rows bk
                  · exact hgo.sim.grow.ext.same bk (k6 bk hb ho)
                  · exact hgo.sim.frame bk (Nat.lt_of_lt_of_le hb hIW.size) ho
                refine ⟨⟨hgo.sim.grow.below.size, fun k o hk ho hno => ?_⟩, low, ?_⟩
                · refine (hgo.sim.frame k (lt_of_heap ho) (fun hh => ?_)).trans ho
                  obtain ⟨cs, el, fr, hc⟩ := rows_cells k1 hh
                  rw [ho] at hc
                  simp only [Option.some.injEq] at hc; subst hc
                  cases hno
                · exact ⟨hgo.sim.grow.below.os.trans hIW.os, hgo.sim.grow.below.tape.trans hIW.tape, hgo.sim.grow.below.output.trans hIW.output, Nat.le_trans hIW.size hgo.sim.grow.below.size, fun bk hb => (low bk hb).trans (hIW.block bk hb)⟩
              · intro D xs W hD _ hIW hdef
                have hsim := sim_below hS.H hIW
                refine ⟨rfl, ⟨X.Φ, X.μ, X.u, W⟩, rfl, ⟨hsim, fun t => RelV.mono hsim.grow.ext _ _ (hS.T t), hS.N, ⟨[D], rfl, ⟨List.pairwise_singleton _ _, ?_, ?_, ?_, ?_⟩⟩, hcle, fun k hk => Or.inl hk⟩, fun k hk => Nat.lt_of_lt_of_le (hu k hk) hcle⟩
                · simpa using hD
                · simpa using lt_of_heap hdef
                · simp only [List.mem_singleton, forall_eq]
                  intro ho
                  have : D < X.w.heap.size := Owned.lt hS.H ho
                  omega
                · simpa using hdef
              · intro D c pr W _ _ hh _
                exact hh.elim
            · cases h
          · cases h
        · cases h
      · cases h
    · cases h
  · cases h
end Go.Pv
/- A function's own code, and what a call leaves. Conditions: as each lemma says. -/
namespace Go.Pv
open Go.RowKit

theorem codeT_sim {C : Cfg} {E : Env} {F : FuncId} {pre : List Nat} {m N B : Nat} (hI : IterOk C) (hNf : ∀ fn, C.P.funcs[F]? = some fn → N = fn.ntmps) : ∀ (c : Code), CodeOk (RegionOk C E F N) c → ∀ (s s' : St) (ex : Ex), codeT C E F pre m c s = some (ex, s') → ∀ (X : Ctx) (a : Act), SRel X B N s a → (∀ k, X.u k → k < s.c) →
    c.wpIn (FR none) 2 C.P (CPostT B N X s s' a ex) a X.w
  | .skip, _, s, s', ex, h, X, a, hS, hu => by
    simp only [codeT, Option.some.injEq, Prod.mk.injEq] at h
    obtain ⟨rfl, rfl⟩ := h
    exact wpIn_skip ⟨rfl, X, rfl, GoesT.refl hS, hu⟩
  | .label l, _, s, s', ex, h, X, a, hS, hu => by
    simp only [codeT, Option.some.injEq, Prod.mk.injEq] at h
    obtain ⟨rfl, rfl⟩ := h
    exact wpIn_label ⟨rfl, X, rfl, GoesT.refl hS, hu⟩
  | .exit id, _, s, s', ex, h, X, a, hS, hu => by
    simp only [codeT, Option.some.injEq, Prod.mk.injEq] at h
    obtain ⟨rfl, rfl⟩ := h
    exact wpIn_exit ⟨rfl, X, rfl, GoesT.refl hS, hu⟩
  | .ret, _, s, s', ex, h, X, a, hS, hu => by
    simp only [codeT, Option.some.injEq, Prod.mk.injEq] at h
    obtain ⟨rfl, rfl⟩ := h
    exact wpIn_ret ⟨rfl, X, rfl, GoesT.refl hS, hu⟩
  | .region id ops dr, hR, s, s', ex, h, X, a, hS, hu => by
    simp only [codeT] at h
    exact wpIn_mono (code_sim _ hR s s' ex h X a hS hu) fun e a1 w1 hq => CPost.top hq
  | .seq x y, hR, s, s', ex, h, X, a, hS, hu => by
    simp only [codeT] at h
    refine wpIn_seq ?_
    split at h
    · next s1 h1 =>
      refine wpIn_mono (codeT_sim hI hNf x hR.1 s s1 .normal h1 X a hS hu) fun e a1 w1 hq => ?_
      obtain ⟨rfl, Y, rfl, hgo, hY⟩ := hq
      refine wpIn_mono (codeT_sim hI hNf y hR.2 s1 s' ex h Y a1 hgo.srel hY) fun e a2 w2 hq => ?_
      obtain ⟨rfl, Z, rfl, hgo', hZ⟩ := hq
      exact ⟨rfl, Z, rfl, hgo.trans hgo' hgo.c, hZ⟩
    · next hne =>
      refine wpIn_mono (codeT_sim hI hNf x hR.1 s s' ex h X a hS hu) fun e a1 w1 hq => ?_
      have hq' := hq
      obtain ⟨rfl, _⟩ := hq'
      cases ex with
      | normal => exact absurd h (hne s')
      | ret => exact hq
      | exit id => exact hq
  | .cond c x y, hR, s, s', ex, h, X, a, hS, hu => by
    simp only [codeT] at h
    have hx := opd_rel hS.T c
    split at h
    · next hc =>
      rw [hc] at hx
      exact wpIn_cond_true (rel_bool hx) (codeT_sim hI hNf x hR.1 s s' ex h X a hS hu)
    · next hc =>
      rw [hc] at hx
      exact wpIn_cond_false (rel_bool hx) (codeT_sim hI hNf y hR.2 s s' ex h X a hS hu)
    · cases h
  | .block id b, hR, s, s', ex, h, X, a, hS, hu => by
    simp only [codeT] at h
    refine wpIn_block ?_
    split at h
    · next i s1 h1 =>
      refine wpIn_mono (codeT_sim hI hNf b hR s s1 (.exit i) h1 X a hS hu) fun e a1 w1 hq => ?_
      obtain ⟨rfl, hq⟩ := hq
      simp only [exE, Exit.inBlock]
      split at h
      · next hi =>
        simp only [Option.some.injEq, Prod.mk.injEq] at h
        obtain ⟨rfl, rfl⟩ := h
        rw [if_pos hi]
        exact ⟨rfl, hq⟩
      · next hi =>
        simp only [Option.some.injEq, Prod.mk.injEq] at h
        obtain ⟨rfl, rfl⟩ := h
        rw [if_neg hi]
        exact ⟨rfl, hq⟩
    · next hne =>
      refine wpIn_mono (codeT_sim hI hNf b hR s s' ex h X a hS hu) fun e a1 w1 hq => ?_
      have hq' := hq
      obtain ⟨rfl, _⟩ := hq'
      cases ex with
      | normal => exact hq
      | ret => exact hq
      | exit id => exact absurd h (hne id s')
  | .loop b, hR, s, s', ex, h, X, a, hS, hu => by
    simp only [codeT] at h
    refine wpIn_loop_rounds m ?_
    have key : ∀ (j : Nat) (s : St), loopN (codeT C E F pre m b) j s = some (ex, s') → ∀ (Y : Ctx) (a1 : Act) (s0 : St), GoesT s0.c B N X Y s0 s a a1 → (∀ k, Y.u k → k < s.c) → Code.roundsIn (FR none) 2 C.P b (CPostT B N X s0 s' a ex) j a1 Y.w := by
      intro j
      induction j with
      | zero => intro s h; simp [loopN] at h
      | succ j ih =>
        intro s h Y a1 s0 hgo hY
        rw [roundsIn_succ]
        simp only [loopN] at h
        split at h
        · next s1 h1 =>
          refine wpIn_mono (codeT_sim hI hNf b hR s s1 .normal h1 Y a1 hgo.srel hY) fun e a2 w2 hq => ?_
          obtain ⟨rfl, Z, rfl, hgo', hZ⟩ := hq
          exact ih s1 h Z a2 s0 (hgo.trans hgo' hgo.c) hZ
        · next hne =>
          refine wpIn_mono (codeT_sim hI hNf b hR s s' ex h Y a1 hgo.srel hY) fun e a2 w2 hq => ?_
          obtain ⟨rfl, Z, rfl, hgo', hZ⟩ := hq
          cases ex with
          | normal => exact absurd h (hne s')
          | ret => exact ⟨rfl, Z, rfl, hgo.trans hgo' hgo.c, hZ⟩
          | exit id => exact ⟨rfl, Z, rfl, hgo.trans hgo' hgo.c, hZ⟩
    exact key m s h X a s (GoesT.refl hS) hu
  | .rangeFunc f ps x y, hR, s, s', ex, h, X, a, hS, hu => rangeFunc_sim hI hNf hR.1 hR.2 h hS hu
  | .scope b, hR, s, s', ex, h, X, a, hS, hu => by
    simp only [codeT] at h
    refine wpIn_scope (wpIn_mono (codeT_sim hI hNf b hR s s' ex h X a hS hu) fun e a1 w1 hq => ?_)
    have hq' := hq
    obtain ⟨rfl, _⟩ := hq'
    cases ex with
    | normal => exact hq
    | ret => exact hq
    | exit id => exact hq
  | .goto l, hR, s, s', ex, h, X, a, hS, hu => by simp [codeT] at h
  | .refuse w, hR, s, s', ex, h, X, a, hS, hu => by simp [codeT] at h

/-- On the way out the marks are taken. -/
theorem leaves_marks {P : Program} {fn : Func} {R : Ending → World → Prop} {X : Ctx} {B : Nat} {h h' : Heap} {tmps : Array Value} {ts : Tmps} {U : Nat → Prop} (hX : HRel X B h)
    (hend : ∀ Y : Ctx, Sim B X Y h h' → (∀ t, RelV Y (ts t) (tmps.getD t undef)) → (∀ k, Y.u k → U k) → ∃ v, (results fn tmps).run P Y.w = .ok v Y.w ∧ R (.returned v) Y.w) :
    ∀ (Ds : List Nat) (Y : Ctx), Sim B X Y h h' → (∀ t, RelV Y (ts t) (tmps.getD t undef)) → (∀ k, Y.u k → U k) → MarksOk X.w.heap.size Y h' Ds → LeavesInM (FR none) 2 P fn tmps R (Ds.map mark) .returning Y.w
  | [], Y, hs, hT, hU, _ => hend Y hs hT hU
  | D :: Ds, Y, hs, hT, hU, hm => by
    have hD := hm.here D (by simp)
    have hg := grownBy_putObj' Y.w D (.deferred none)
    have hc : ∀ r, some D = some r → ∃ o : Obj, Y.w.heap[r]? = some o ∧ o.isCells = false := fun r e => by
      simp only [Option.some.injEq] at e; subst e
      exact ⟨_, hD, rfl⟩
    have hs' := turn_sim hg hc hX hs (fun r e => by simp only [Option.some.injEq] at e; subst e; exact hm.free D (by simp)) (fun r e => by simp only [Option.some.injEq] at e; subst e; exact hm.low D (by simp))
    refine ⟨(fun hh => by cases hh), Or.inl ⟨D, _, rfl, run_takeDeferred hD, ?_⟩⟩
    have hp := List.pairwise_cons.1 hm.desc
    exact leaves_marks hX hend Ds (Y.turn (some D) (Y.w.putObj D (.deferred none))) hs' (fun t => turn_relV hg hc (hT t)) hU
      ⟨hp.2, fun D' hD' => hm.low D' (by simp [hD']), fun D' hD' => Nat.lt_of_lt_of_le (hm.high D' (by simp [hD'])) hg.size, fun D' hD' ho => hm.free D' (by simp [hD']) ho, fun D' hD' => by
        have := hp.1 D' hD'
        exact (World.putObj_heap_other (by omega)).trans (hm.here D' (by simp [hD']))⟩
end Go.Pv
/- Whole functions; calls by fuel. Conditions: as each lemma says. -/
namespace Go.Pv
open Go.RowKit

theorem readV_ptr {P : Program} {X : Ctx} {h : Heap} {t : TypeId} {x v : V} {y : Value} (hx : RelV X x y) (hv : readV P h t x = some v) : ∃ ad, y = .pointer (some ad) := by
  unfold readV at hv
  split at hv
  · split at hv
    · simp only [RelV] at hx
      obtain ⟨_, ad, rfl, _⟩ := hx
      exact ⟨ad, rfl⟩
    · simp only [RelV] at hx
      obtain ⟨b, o', rfl, _⟩ := hx
      exact ⟨_, rfl⟩
    · cases hv
  · cases hv

theorem resAll_sim {P : Program} {X : Ctx} {B N : Nat} {s : St} {a : Act} (hS : SRel X B N s a) (f : ResultVar → Sem Value) (hf1 : ∀ t, f (.tmp t) = pure (a.tmps.getD t undef)) (hf2 : ∀ c t, f (.cell c t) = do loadVar t (← asAddr (a.tmps.getD c undef))) :
    ∀ (l : List ResultVar) (vs : List V), resAll P s l = some vs → ∃ xs : List Value, (l.mapM f).run P X.w = .ok xs X.w ∧ RelVs X vs xs
  | [], vs, h => by
    simp only [resAll, Option.some.injEq] at h; subst h
    exact ⟨[], rfl, by simp only [RelVs]⟩
  | r :: rs, vs, h => by
    simp only [resAll] at h
    split at h
    · next v vs' h1 h2 =>
      simp only [Option.some.injEq] at h; subst h
      obtain ⟨xs, g1, g2⟩ := resAll_sim hS f hf1 hf2 rs vs' h2
      have one : ∃ x, (f r).run P X.w = .ok x X.w ∧ RelV X v x := by
        cases r with
        | tmp t =>
          simp only [resOne, Option.some.injEq] at h1; subst h1
          exact ⟨_, by rw [hf1, run_pure], hS.T t⟩
        | cell c t =>
          simp only [resOne] at h1
          obtain ⟨x, q1, q2⟩ := readV_sim hS.H (hS.T c) h1
          obtain ⟨ad, had⟩ := readV_ptr (hS.T c) h1
          refine ⟨x, ?_, q2⟩
          rw [had] at q1
          rw [hf2, had]
          simp only [Instr.loadAt, run_bind, sureAddr_run] at q1
          simp only [run_bind, asAddr, run_pure]
          exact q1
      obtain ⟨x, q1, q2⟩ := one
      refine ⟨x :: xs, ?_, ?_⟩
      · simp only [List.mapM_cons, run_bind, q1, g1, run_pure]
      · simp only [RelVs]
        exact ⟨x, xs, rfl, q2, g2⟩
    · cases h

theorem res_sim {P : Program} {X : Ctx} {B N : Nat} {s : St} {a : Act} {fn : Func} {v : V} (hS : SRel X B N s a) (h : resV P fn s = some v) : ∃ x, (results fn a.tmps).run P X.w = .ok x X.w ∧ RelV X v x := by
  unfold resV at h
  have run : ∀ vs, resAll P s fn.results.toList = some vs → ∃ xs : List Value, RelVs X vs xs ∧ (results fn a.tmps).run P X.w = .ok (if h : xs.length = 1 then xs[0] else .tuple xs.toArray) X.w := by
    intro vs hvs
    obtain ⟨xs, h1, h2⟩ := resAll_sim hS (fun r => match r with
      | .tmp t => pure (a.tmps.getD t undef)
      | .cell c t => do loadVar t (← asAddr (a.tmps.getD c undef))) (fun _ => rfl) (fun _ _ => rfl) fn.results.toList vs hvs
    refine ⟨xs, h2, ?_⟩
    have hm : (fn.results.mapM (fun r => match r with
      | .tmp t => pure (a.tmps.getD t undef)
      | .cell c t => do loadVar t (← asAddr (a.tmps.getD c undef)) : ResultVar → Sem Value)).run P X.w = .ok xs.toArray X.w := by
      rw [Array.mapM_eq_mapM_toList]
      show ((_ >>= fun (x : List Value) => pure x.toArray : Sem (Array Value))).run P X.w = _
      rw [run_bind, h1]
      rfl
    have hg : ∀ g : ResultVar → Sem Value, (∀ x, g x = match x with
      | .tmp t => pure (a.tmps.getD t undef)
      | .cell c t => do loadVar t (← asAddr (a.tmps.getD c undef))) → (fn.results.mapM g).run P X.w = .ok xs.toArray X.w := by
      intro g hg
      rw [funext hg]
      exact hm
    unfold results
    rw [run_bind, hg _ (fun x => by cases x <;> rfl)]
    rfl
  split at h
  · next v' hvs =>
    simp only [Option.some.injEq] at h; subst h
    obtain ⟨xs, h1, h2⟩ := run _ hvs
    simp only [RelVs] at h1
    obtain ⟨x, xs', rfl, h3, rfl⟩ := h1
    exact ⟨x, by simpa using h2, h3⟩
  · next vs hne hvs =>
    simp only [Option.some.injEq] at h; subst h
    obtain ⟨xs, h1, h2⟩ := run _ hvs
    have hl : xs.length ≠ 1 := by
      intro hl
      cases xs with
      | nil => cases hl
      | cons x xs =>
        cases xs with
        | cons _ _ => simp at hl
        | nil =>
          cases vs with
          | nil => simp only [RelVs] at h1; cases h1
          | cons v vs =>
            cases vs with
            | nil => exact hne v rfl
            | cons _ _ =>
              simp only [RelVs] at h1
              obtain ⟨_, _, e, _, _, _, e', _⟩ := h1
              simp only [List.cons.injEq] at e
              obtain ⟨_, rfl⟩ := e
              cases e'
    refine ⟨_, h2, ?_⟩
    rw [dif_neg hl]
    simp only [RelV]
    exact ⟨_, rfl, by simpa using h1⟩
  · cases h

theorem relVs_len {X : Ctx} : ∀ {ts : List V} {vs : List Value}, RelVs X ts vs → vs.length = ts.length
  | [], vs, h => by simp only [RelVs] at h; subst h; rfl
  | t :: ts, vs, h => by
    simp only [RelVs] at h
    obtain ⟨v, vs', rfl, _, h⟩ := h
    simp [relVs_len h]

theorem trel_start {X : Ctx} {vs : List V} {args : Array Value} (h : RelVs X vs args.toList) (k : Nat) : TRel X (Tmps.ofList vs) { tmps := args ++ Array.replicate k undef, defers := [] } := by
  intro t
  have hl := relVs_len h
  simp only [Array.length_toList] at hl
  simp only [Tmps.ofList, Array.getD_eq_getD_getElem?]
  by_cases ht : t < vs.length
  · rw [Array.getElem?_append_left (by omega)]
    obtain ⟨v, h1, h2⟩ := relVs_get h (List.getElem?_eq_getElem ht)
    rw [Array.getElem?_toList] at h1
    rw [h1, List.getElem?_eq_getElem ht]
    exact h2
  · rw [Array.getElem?_append_right (by omega), List.getElem?_eq_none (by omega)]
    simp only [Option.getD_none, RelV]
    by_cases hk : t - args.size < k
    · simp [hk]
    · simp [hk]

/-- The functions whose codes are fit to be run. -/
def FuncsOk (C : Cfg) (E : Env) : Prop := ∀ f fn b, C.P.funcs[f]? = some fn → fn.body = some b → C.md f ≤ 3 → (fn.name == "runtime.NumGoroutine") = false ∧ CodeOk (RegionOk C E f fn.ntmps) b

theorem runF_sim {C : Cfg} {E : Env} (hI : IterOk C) (hF : FuncsOk C E) {m : Nat} {f : FuncId} {vs : List V} {pre : List Nat} {h h' : Heap} {c c' : Nat} {v : V} (hmd : C.md f ≤ 3) (hv : runF C E m f vs pre h c = some (v, h', c')) :
    Enters C.P f ∧ ∀ X B (args : Array Value), HRel X B h → RelVs X vs args.toList → (∀ k, X.u k → k < c) → c ≤ c' ∧ Calls C.P f args X.w (EndH X B h h' c c' v) := by
  unfold runF at hv
  split at hv
  · next fn hfn =>
    split at hv
    · next b hb =>
      split at hv
      · next hlen =>
        obtain ⟨hname, hok⟩ := hF f fn b hfn hb hmd
        have hent : Enters C.P f := ⟨fn, hfn, by rw [hb]; rfl, hname⟩
        have main : ∀ s' ex, codeT C E f pre m b ⟨Tmps.ofList vs, h, c⟩ = some (ex, s') → (ex = .normal ∨ ex = .ret) → ∀ v, resV C.P fn s' = some v → ∀ X B (args : Array Value), HRel X B h → RelVs X vs args.toList → (∀ k, X.u k → k < c) → c ≤ s'.c ∧ Calls C.P f args X.w (EndH X B h s'.heap c s'.c v) := by
          intro s' ex hcode hex v hres X B args hr ha hu
          have hl := relVs_len ha
          simp only [Array.length_toList] at hl
          have hS : SRel X B fn.ntmps ⟨Tmps.ofList vs, h, c⟩ { tmps := args ++ Array.replicate (fn.ntmps - args.size) undef, defers := [] } :=
            ⟨trel_start ha _, by simp; omega, hr⟩
          have hcs := codeT_sim hI (fun fn' hfn' => by rw [hfn] at hfn'; cases hfn'; rfl) b hok ⟨Tmps.ofList vs, h, c⟩ s' ex hcode X _ hS hu
          refine ⟨?_, (callsIn_wide (n := 2)).1 (callsIn_of_wp_marks (F := FR none) hfn hb trivial (wpIn_mono hcs fun e a' w' hq => ?_))⟩
          · obtain ⟨e, a', w', hq⟩ := wpIn_some hcs
            obtain ⟨_, Y, _, hgo, _⟩ := hq
            exact hgo.c
          · obtain ⟨rfl, Y, rfl, hgo, hY⟩ := hq
            obtain ⟨Ds, hD, hm⟩ := hgo.marks
            have hD' : a'.defers = Ds.map mark := by rw [hD]; simp
            have hend : LeavesInM (FR none) 2 C.P fn a'.tmps (EndH X B h s'.heap c s'.c v) (Ds.map mark) .returning Y.w := by
              refine leaves_marks (ts := s'.tmps) (U := fun k => X.u k ∨ (c ≤ k ∧ k < s'.c)) hr (fun Z hs hT hU => ?_) Ds Y hgo.sim hgo.T hgo.u hm
              obtain ⟨x, g1, g2⟩ := res_sim (a := a') (B := B) (N := fn.ntmps) ⟨hT, hgo.N, hs.rel⟩ hres
              exact ⟨x, g1, Z, rfl, hs, g2, hU⟩
            rcases hex with rfl | rfl
            · show LeavesInM (FR none) 2 C.P fn a'.tmps (EndH X B h s'.heap c s'.c v) a'.defers .returning Y.w
              rw [hD']; exact hend
            · show LeavesInM (FR none) 2 C.P fn a'.tmps (EndH X B h s'.heap c s'.c v) a'.defers .returning Y.w
              rw [hD']; exact hend
        refine ⟨hent, ?_⟩
        split at hv
        · next s' hcode =>
          cases hres : resV C.P fn s' with
          | none => rw [hres] at hv; cases hv
          | some v' =>
            rw [hres] at hv
            simp only [Option.map_some, Option.some.injEq, Prod.mk.injEq] at hv
            obtain ⟨rfl, rfl, rfl⟩ := hv
            exact main s' .normal hcode (Or.inl rfl) _ hres
        · next s' hcode =>
          cases hres : resV C.P fn s' with
          | none => rw [hres] at hv; cases hv
          | some v' =>
            rw [hres] at hv
            simp only [Option.map_some, Option.some.injEq, Prod.mk.injEq] at hv
            obtain ⟨rfl, rfl, rfl⟩ := hv
            exact main s' .ret hcode (Or.inr rfl) _ hres
        · cases hv
      · cases hv
    · cases hv
  · cases hv

/-- What the primitives are: of each, its contract. -/
def PrimOk (C : Cfg) : Prop := ∀ f ts r, C.md f = 4 → C.prim f ts = some r → Enters C.P f ∧ ∀ (Φ : Nat → Prop) (args : Array Value) (w : World), (∀ b, Φ b → b < w.heap.size) → RelTs Φ w ts args.toList → Calls C.P f args w (EndT Φ w r)
def CloneOk (C : Cfg) : Prop := ∀ f fn t x p h c v h' c', C.md f = 5 → C.P.funcs[f]? = some fn → fn.params[0]? = some t → appendV C.P h p c t .cap0 x t = some (v, h', c') → Enters C.P f ∧ ∀ X B (args : Array Value), HRel X B h → RelVs X [x] args.toList → (∀ k, X.u k → k < c) → c ≤ c' ∧ Calls C.P f args X.w (EndH X B h h' c c' v)

theorem good_lev {C : Cfg} (hI : IterOk C) (hP : PrimOk C) (hK : CloneOk C) (hF : ∀ E, Good C E → FuncsOk C E) : ∀ n, Good C (lev C n)
  | 0 => ⟨fun f ts r h => by simp [lev] at h, fun f vs pre h c v h' c' hh => by simp [lev] at hh, hK⟩
  | n + 1 => by
    have hG := good_lev hI hP hK hF n
    refine ⟨fun f ts r h => ?_, fun f vs pre h c v h' c' hh => ?_, hK⟩
    · simp only [lev] at h
      split at h
      · next h4 => exact hP f ts r h4 h
      · split at h
        · next hmd =>
          split at h
          · next v hp c' hrun =>
            obtain ⟨hent, hall⟩ := runF_sim hI (hF _ hG) (by omega) hrun
            refine ⟨hent, fun Φ args w hold hrel => ?_⟩
            let X : Ctx := ⟨Φ, fun _ _ => none, fun _ => False, w⟩
            have hr : HRel X w.heap.size Heap.emp := ⟨fun p g x hx => by simp [Heap.emp] at hx, fun p g x p' g' x' b o s o' s' hx => by simp [Heap.emp] at hx, hold, Nat.le_refl _⟩
            have ha : RelVs X (ts.map .t) args.toList := relVs_t (X := X) hrel
            refine Calls.mono (hall X w.heap.size args hr ha (fun k hk => hk.elim)).2 fun e w' he => ?_
            cases e with
            | returned x =>
              obtain ⟨Y, rfl, h1, h2, h3⟩ := he
              have noOwn : ∀ b, ¬ Owned X Heap.emp b := by
                rintro b ⟨p, g, x, o, s, hx, _⟩
                simp [Heap.emp] at hx
              refine ⟨h1.grow.below, fun b => Y.Φ b ∨ Owned Y hp b, fun b hb => Or.inl (h1.grow.ext.Φ b hb), fun b hb => ?_, fun b hb => ?_, ?_⟩
              · rcases hb with hb | hb
                · rcases h1.newΦ b hb with k | k | k
                  · exact Or.inl k
                  · exact (noOwn b k).elim
                  · exact Or.inr k
                · rcases h1.own b hb with k | k
                  · exact (noOwn b k).elim
                  · exact Or.inr k
              · rcases hb with hb | hb
                · exact h1.rel.old b hb
                · exact Owned.lt h1.rel hb
              · exact snap_rel h1.rel deep v r x h h2 (fun b hb => Or.inl hb) (fun p g es fz b o s _ k1 k2 => Or.inr ⟨p, g, _, o, s, k1, k2⟩)
            | _ => exact he.elim
          · cases h
        · cases h
    · simp only [lev] at hh
      split at hh
      · next hmd => exact runF_sim hI (hF _ hG) (by omega) hh
      · cases hh
end Go.Pv
