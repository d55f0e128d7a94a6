/- The evaluator of Go code and its soundness, a part of four. Conditions: as each lemma says. -/
import Derived.Test.YtlgjiecmmajjjaaGreatPvL3
import Derived.WalkSpells
/- Operations that don't mind their order. Conditions: as each lemma says. -/
namespace Go.Pv

def tmpOf : Operand → Option Nat
  | .tmp t => some t
  | _ => none
theorem opd_congr {ts ts' : Tmps} {l : List Operand} (h : ∀ t ∈ l.filterMap tmpOf, ts t = ts' t) : ∀ x ∈ l, opd ts x = opd ts' x := by
  intro x hx
  cases x with
  | tmp t => exact h t (List.mem_filterMap.2 ⟨.tmp t, hx, rfl⟩)
  | _ => rfl

section
variable {P : Program} {ρ ρ' : Operand → V} {op : Op}
theorem map_congr_arr {l : Array Operand} (h : ∀ x ∈ l, ρ x = ρ' x) : l.toList.map ρ = l.toList.map ρ' := List.map_congr_left fun x hx => h x (Array.mem_toList_iff.1 hx)
theorem opt_congr {x : Option Operand} (h : ∀ y ∈ x.toArray, ρ y = ρ' y) : x.map ρ = x.map ρ' := by
  cases x with
  | none => rfl
  | some y => simp [h y (by simp)]

theorem pureOp_congr (h : ∀ x ∈ op.operands, ρ x = ρ' x) : pureOp P ρ op = pureOp P ρ' op := by
  cases op with
  | build t ps =>
    have : (ps.toList.map fun x => (x.1, ρ x.2)) = ps.toList.map fun x => (x.1, ρ' x.2) := List.map_congr_left fun x hx => by
      rw [h x.2 (by simp only [Op.operands]; simp; exact ⟨x.1, by simpa using hx⟩)]
    simp only [pureOp, this]
  | buildSlice t n ps =>
    have : (ps.toList.map fun x => (x.1, ρ x.2)) = ps.toList.map fun x => (x.1, ρ' x.2) := List.map_congr_left fun x hx => by
      rw [h x.2 (by simp only [Op.operands]; simp; exact ⟨x.1, by simpa using hx⟩)]
    simp only [pureOp, this]
  | makeFunc f fi ca =>
    simp only [Op.operands, Array.mem_append] at h
    simp only [pureOp, map_congr_arr fun x hx => h x (Or.inl hx), map_congr_arr fun x hx => h x (Or.inr hx)]
  | slice t x lo hi mx =>
    simp only [Op.operands, Array.mem_append] at h
    have h1 := h x (Or.inl (Or.inl (Or.inl (by simp))))
    simp only [pureOp, h1, opt_congr fun y hy => h y (Or.inl (Or.inl (Or.inr hy))), opt_congr fun y hy => h y (Or.inl (Or.inr hy)), opt_congr fun y hy => h y (Or.inr hy)]
  | call c =>
    obtain ⟨callee, args, argTypes⟩ := c
    cases callee with
    | builtin b =>
      simp only [Op.operands, Call.operands] at h
      have h' : ∀ x ∈ args, ρ x = ρ' x := fun x hx => h x (by simpa using hx)
      cases b <;> simp only [pureOp, map_congr_arr h']
      cases argTypes[0]? with
      | none => rfl
      | some t =>
        cases ha : args[0]? with
        | none => rfl
        | some x => exact congrArg (lenV P t) (h' x (Array.mem_of_getElem? ha))
    | _ => rfl
  | _ => first
    | rfl
    | (simp only [Op.operands, List.mem_toArray, List.mem_cons, List.not_mem_nil, or_false, forall_eq, forall_eq_or_imp] at h
       simp only [pureOp, h])
theorem allocOp_congr {t : TypeId} (h : ∀ x ∈ op.operands, ρ x = ρ' x) : allocOp P ρ t op = allocOp P ρ' t op := by
  cases op with
  | makeMap t r => cases r <;> rfl
  | _ => first
    | rfl
    | (simp only [Op.operands, List.mem_toArray, List.mem_cons, List.not_mem_nil, or_false, forall_eq, forall_eq_or_imp] at h
       simp only [allocOp, h])
theorem loadOp_congr {hp : Heap} (h : ∀ x ∈ op.operands, ρ x = ρ' x) : loadOp P hp ρ op = loadOp P hp ρ' op := by
  cases op <;> first
    | rfl
    | (simp only [Op.operands, List.mem_toArray, List.mem_cons, List.not_mem_nil, or_false, forall_eq, forall_eq_or_imp] at h
       simp only [loadOp, h])
theorem storeOp_congr {hp : Heap} (h : ∀ x ∈ op.operands, ρ x = ρ' x) : storeOp P hp ρ op = storeOp P hp ρ' op := by
  cases op <;> first
    | rfl
    | (simp only [Op.operands, List.mem_toArray, List.mem_cons, List.not_mem_nil, or_false, forall_eq, forall_eq_or_imp] at h
       simp only [storeOp, h])
theorem target_congr {c : Call} (h : ∀ x ∈ c.operands, ρ x = ρ' x) : target P ρ c = target P ρ' c := by
  obtain ⟨callee, args, argTypes⟩ := c
  simp only [Call.operands, Array.mem_append] at h
  have h' := map_congr_arr fun x hx => h x (Or.inr hx)
  cases callee with
  | value f =>
    have hf := h f (Or.inl (by simp))
    simp only [target, hf, h']
  | invoke r n =>
    have hf := h r (Or.inl (by simp))
    simp only [target, hf, h']
  | builtin b => rfl
theorem effOp_congr {C : Cfg} {E : Env} {p : List Nat} {hp : Heap} {c : Nat} (h : ∀ x ∈ op.operands, ρ x = ρ' x) : effOp C E p hp c ρ op = effOp C E p hp c ρ' op := by
  cases op with
  | call cl =>
    have ht : target C.P ρ cl = target C.P ρ' cl := target_congr (by simpa only [Op.operands] using h)
    obtain ⟨callee, args, argTypes⟩ := cl
    cases callee with
    | value f => simp only [effOp, ht]
    | invoke r n => simp only [effOp, ht]
    | builtin b =>
      simp only [Op.operands, Call.operands] at h
      have h' : ∀ x ∈ args.toList, ρ x = ρ' x := fun x hx => h x (by simpa using hx)
      cases b <;> simp only [effOp]
      · generalize args.toList = l at h'
        split <;> simp_all
      · generalize args.toList = l at h'
        split <;> simp_all
  | next x s =>
    simp only [Op.operands, List.mem_toArray, List.mem_cons, List.not_mem_nil, or_false, forall_eq] at h
    simp only [effOp, h]
  | _ => rfl
end

/-- Which numbers a step looks at. -/
def usesT (C : Cfg) (F : FuncId) (rid : Nat) (ops : Array Oper) (i : Nat) (o : Oper) : List Nat :=
  o.op.operands.toList.filterMap tmpOf ++ (match o.guard with | some (j, _) => (((ops[j]?).bind (·.dst)).toList) | none => []) ++ C.hide F rid i ++ (match C.rt F rid i with | some (some t) => [t] | _ => [])

/-- What a step does to the memory, and its value. -/
def eff (C : Cfg) (E : Env) (A : At) (ops : Array Oper) (i : Nat) (o : Oper) (ts : Tmps) (h : Heap) (c : Nat) : Option (V × Heap × Nat) :=
  match wants ops o ts with
  | some true => match cls C o.op with
    | 0 => (pureOp C.P (opd ts) o.op).map fun v => (v, h, c)
    | 1 => (allocOp C.P (opd ts) o.type o.op).map fun r => (r.2 (nameOf A o.dst) (A.base + i), h.upd (nameOf A o.dst) (A.base + i) (some ⟨false, r.1⟩), c)
    | 2 => if rootOk C A i ts o.op && ownOk C A i (keyAt ts o.op) then (loadOp C.P h (opd ts) o.op).map fun v => (v, h, c) else none
    | 3 => match o.op with
      | .call cl => match target C.P (opd ts) cl with
        | some (f, vs) => (valueCall C E (h.view A) f vs).map fun r => (r.1, h.merge A ((h.view A).freeze r.2), c)
        | none => none
      | _ => none
    | 4 => (effOp C E (nameOf A o.dst) ((h.view A).hide (hideKs C A i ts)) c (opd ts) o.op).map fun r => (r.1, h.merge A ((h.view A).unhide (hideKs C A i ts) r.2.1), r.2.2)
    | 5 => if ownOk C A i (keyAt ts o.op) then (storeOp C.P (h.hide (hideKs C A i ts)) (opd ts) o.op).map fun h' => (.undef, h.unhide (hideKs C A i ts) h', c) else none
    | _ => none
  | some false => some (.undef, h, c)
  | none => none

theorem stepI_eff (C : Cfg) (E : Env) (A : At) (ops : Array Oper) (i : Nat) (o : Oper) (s : St) :
    stepI C E A ops i o s = (eff C E A ops i o s.tmps s.heap s.c).map fun r => ⟨s.tmps.put o.dst r.1, r.2.1, r.2.2⟩ := by
  unfold stepI eff
  cases hw : wants ops o s.tmps with
  | none => rfl
  | some w =>
    cases w with
    | false => rfl
    | true =>
      unfold exec
      simp only
      generalize cls C o.op = k
      match k with
      | 0 => simp only; cases pureOp C.P (opd s.tmps) o.op <;> rfl
      | 1 => simp only; cases allocOp C.P (opd s.tmps) o.type o.op <;> rfl
      | 2 =>
        simp only
        split
        · cases loadOp C.P s.heap (opd s.tmps) o.op <;> rfl
        · rfl
      | 3 =>
        simp only
        cases o.op with
        | call cl =>
          simp only
          cases target C.P (opd s.tmps) cl with
          | none => rfl
          | some r =>
            obtain ⟨f, vs⟩ := r
            simp only
            cases valueCall C E (s.heap.view A) f vs <;> rfl
        | _ => rfl
      | 4 => simp only; cases effOp C E (nameOf A o.dst) ((s.heap.view A).hide (hideKs C A i s.tmps)) s.c (opd s.tmps) o.op <;> rfl
      | 5 =>
        simp only
        split
        · cases storeOp C.P (s.heap.hide (hideKs C A i s.tmps)) (opd s.tmps) o.op <;> rfl
        · rfl
      | n + 6 => rfl

theorem hidden_congr {ts ts' : Tmps} : ∀ {l : List Nat}, (∀ t ∈ l, ts t = ts' t) → hidden ts l = hidden ts' l
  | [], _ => rfl
  | t :: l, h => by
    simp only [hidden, h t (by simp), hidden_congr (l := l) fun t ht => h t (by simp [ht])]
theorem addrOf_mem {op : Op} {x : Operand} (h : addrOf op = some x) : x ∈ op.operands.toList := by
  cases op <;> simp [addrOf] at h <;> subst h <;> simp [Op.operands]
theorem eff_congr {C : Cfg} {E : Env} {A : At} {ops : Array Oper} {i : Nat} {o : Oper} {ts ts' : Tmps} (h : ∀ t ∈ usesT C A.F A.rid ops i o, ts t = ts' t) (hp : Heap) (c : Nat) : eff C E A ops i o ts hp c = eff C E A ops i o ts' hp c := by
  simp only [usesT, List.mem_append] at h
  have h1 : ∀ x ∈ o.op.operands.toList, opd ts x = opd ts' x := opd_congr fun t ht => h t (Or.inl (Or.inl (Or.inl ht)))
  have h1' : ∀ x ∈ o.op.operands, opd ts x = opd ts' x := fun x hx => h1 x (by simpa using hx)
  have h2 : wants ops o ts = wants ops o ts' := by
    unfold wants
    cases hg : o.guard with
    | none => rfl
    | some jb =>
      obtain ⟨j, b⟩ := jb
      simp only
      cases hd : (ops[j]?).bind (·.dst) with
      | none => rfl
      | some d =>
        have := h d (Or.inl (Or.inl (Or.inr (by simp [hg, hd]))))
        simp only [this]
  have h3 : hideKs C A i ts = hideKs C A i ts' := by
    unfold hideKs
    rw [hidden_congr fun t ht => h t (Or.inl (Or.inr ht))]
  have h4 : keyAt ts o.op = keyAt ts' o.op := by
    unfold keyAt
    cases ha : addrOf o.op with
    | none => rfl
    | some x => simp only [Option.bind_some, h1 x (addrOf_mem ha)]
  have h5 : rootOk C A i ts o.op = rootOk C A i ts' o.op := by
    unfold rootOk
    cases hr : C.rt A.F A.rid i with
    | none => rfl
    | some r =>
      cases ha : addrOf o.op with
      | none => cases r <;> rfl
      | some x =>
        have hx := h1 x (addrOf_mem ha)
        cases r with
        | none => simp only [hx]
        | some t =>
          have := h t (Or.inr (by simp [hr]))
          simp only [hx, this]
  unfold eff
  rw [h2, h3, h4, h5, pureOp_congr h1', allocOp_congr h1', loadOp_congr h1', storeOp_congr h1']
  simp only [effOp_congr h1']
  cases ho : o.op with
  | call cl =>
    have : target C.P (opd ts) cl = target C.P (opd ts') cl := target_congr (by intro x hx; exact h1' x (by rw [ho]; simpa only [Op.operands] using hx))
    simp only [this]
  | _ => rfl
end Go.Pv
/- Pairs of steps that don't mind their order. Conditions: as each lemma says. -/
namespace Go.Pv

theorem hide_apply (h : Heap) (ks : List Key) (q : List Nat) (k : Nat) : h.hide ks q k = if covers ks (q, k) then none else h q k := by
  unfold Heap.hide
  split
  · next he => have := List.isEmpty_iff.1 he; subst this; simp [covers]
  · rfl
theorem unhide_apply (h h' : Heap) (ks : List Key) (q : List Nat) (k : Nat) : h.unhide ks h' q k = if covers ks (q, k) then h q k else h' q k := by
  unfold Heap.unhide
  split
  · next he => have := List.isEmpty_iff.1 he; subst this; simp [covers]
  · rfl
theorem view_apply (h : Heap) (A : At) (hd : A.dr = true) (q : List Nat) (k : Nat) : h.view A q k = if A.base ≤ k ∧ k < A.base + A.n then none else h q k := by
  unfold Heap.view; rw [if_pos hd]
theorem merge_apply (h h' : Heap) (A : At) (hd : A.dr = true) (q : List Nat) (k : Nat) : h.merge A h' q k = if A.base ≤ k ∧ k < A.base + A.n then h q k else h' q k := by
  unfold Heap.merge; rw [if_pos hd]
theorem upd_apply (h : Heap) (p : List Nat) (g : Nat) (x : Option Ob) (q : List Nat) (k : Nat) : h.upd p g x q k = if k = g ∧ q = p then x else h q k := rfl
theorem freeze_o (h : Heap) (ks : List Key) (q : List Nat) (k : Nat) : (h.freeze ks q k).map (·.o) = (h q k).map (·.o) := by
  unfold Heap.freeze
  split
  · rfl
  · simp only
    cases h q k with
    | none => rfl
    | some ob => simp only [Option.map_some]; split <;> rfl

theorem rowAt_o {h h2 : Heap} {p : List Nat} {g : Nat} (e : (h2 p g).map (·.o) = (h p g).map (·.o)) : rowAt h2 p g = rowAt h p g := by
  unfold rowAt
  cases h1 : h2 p g with
  | none =>
    rw [h1] at e
    cases h3 : h p g with
    | none => rfl
    | some b => rw [h3] at e; cases e
  | some a =>
    rw [h1] at e
    cases h3 : h p g with
    | none => rw [h3] at e; cases e
    | some b =>
      rw [h3] at e
      simp only [Option.map_some, Option.some.injEq] at e
      obtain ⟨f1, o1⟩ := a
      obtain ⟨f2, o2⟩ := b
      simp only at e; subst e
      cases o1 <;> rfl
theorem loadOp_local {P : Program} {ts : Tmps} {op : Op} {h h2 : Heap} (e : ∀ p g, keyAt ts op = some (p, g) → (h2 p g).map (·.o) = (h p g).map (·.o)) : loadOp P h2 (opd ts) op = loadOp P h (opd ts) op := by
  cases op with
  | load t x =>
    simp only [keyAt, addrOf, Option.bind_some] at e
    simp only [loadOp, readV]
    cases hx : opd ts x with
    | ref p g i o =>
      rw [hx] at e
      simp only
      rw [rowAt_o (e p g rfl)]
    | _ => rfl
  | lookup t x i ok =>
    simp only [keyAt, addrOf, Option.bind_some] at e
    simp only [loadOp]
    cases hx : opd ts x with
    | mp p g =>
      rw [hx] at e
      have e' := e p g rfl
      cases P.underlying t with
      | none => rfl
      | some d =>
        cases d with
        | map kt el =>
          simp only
          cases opd ts i with
          | t y =>
            cases y with
            | int j n =>
              cases intT P kt with
              | none => rfl
              | some j' =>
                cases zeroV P el with
                | none => rfl
                | some z =>
                  simp only
                  cases h1 : h2 p g with
                  | none =>
                    rw [h1] at e'
                    cases h3 : h p g with
                    | none => rfl
                    | some b => rw [h3] at e'; cases e'
                  | some a =>
                    rw [h1] at e'
                    cases h3 : h p g with
                    | none => rw [h3] at e'; cases e'
                    | some b =>
                      rw [h3] at e'
                      simp only [Option.map_some, Option.some.injEq] at e'
                      obtain ⟨f1, o1⟩ := a
                      obtain ⟨f2, o2⟩ := b
                      simp only at e'; subst e'
                      cases o1 <;> rfl
            | _ => rfl
          | _ => rfl
        | _ => rfl
    | _ => rfl
  | _ => rfl

theorem storeOp_local (P : Program) (ts : Tmps) (op : Op) : (∀ h, storeOp P h (opd ts) op = none) ∨ ∃ p g, keyAt ts op = some (p, g) ∧ ∃ f : Option Ob → Option Ob, ∀ h, storeOp P h (opd ts) op = (f (h p g)).map fun ob => h.upd p g (some ob) := by
  cases op with
  | store t x v =>
    simp only [storeOp, keyAt, addrOf, Option.bind_some]
    cases hx : opd ts x with
    | ref p g i o =>
      refine Or.inr ⟨p, g, rfl, fun ob => match ob with
        | some ⟨false, .row es⟩ => match es[i]? with
          | some e => if (opd ts v).still ∧ (opd ts v).ncells = sz P t ∧ (kindT P t).isSome then (e.setPart o (opd ts v)).map fun e' => ⟨false, .row (es.set i e')⟩ else none
          | none => none
        | _ => none, fun h => ?_⟩
      simp only [rowW]
      cases h p g with
      | none => rfl
      | some ob =>
        obtain ⟨fz, oc⟩ := ob
        cases fz with
        | true => cases oc <;> rfl
        | false =>
          cases oc with
          | row es =>
            simp only
            cases es[i]? with
            | none => rfl
            | some e =>
              simp only
              split
              · cases e.setPart o (opd ts v) <;> rfl
              · rfl
          | mp k es => rfl
          | it s pos => rfl
    | _ => exact Or.inl fun h => rfl
  | insert t m k v =>
    simp only [storeOp, keyAt, addrOf, Option.bind_some]
    cases hx : opd ts m with
    | mp p g =>
      refine Or.inr ⟨p, g, rfl, fun ob => match P.underlying t with
        | some (.map kt e) => match opd ts k, intT P kt, ob with
          | .t (.int j n), some j', some ⟨false, .mp k' es⟩ => if j = j' ∧ k' = j ∧ (findI n es).isNone ∧ (opd ts v).still ∧ (opd ts v).ncells = sz P e then some ⟨false, .mp k' (insI n (opd ts v) es)⟩ else none
          | _, _, _ => none
        | _ => none, fun h => ?_⟩
      cases hu : P.underlying t with
      | none => rfl
      | some d =>
        cases d with
        | map kt e =>
          simp only
          cases hk : opd ts k with
          | t y =>
            cases y with
            | int j n =>
              cases intT P kt with
              | none => rfl
              | some j' =>
                simp only
                cases h p g with
                | none => rfl
                | some ob =>
                  obtain ⟨fz, oc⟩ := ob
                  cases fz with
                  | true => cases oc <;> rfl
                  | false =>
                    cases oc with
                    | mp k' es =>
                      simp only
                      split <;> rfl
                    | row es => rfl
                    | it s pos => rfl
            | _ => rfl
          | _ => rfl
        | _ => rfl
    | _ =>
      refine Or.inl fun h => ?_
      split <;> first | rfl | (next hh => cases hh) | skip
  | _ => exact Or.inl fun h => rfl
end Go.Pv
/- Pairs of steps: the law. Conditions: as each lemma says. -/
namespace Go.Pv

section
variable {C : Cfg} {E : Env} {A : At} {ops : Array Oper} {i : Nat} {o : Oper} {ts : Tmps}

theorem eff_pure (hc : cls C o.op = 0) {h h1 : Heap} {c c1 : Nat} {v : V} (he : eff C E A ops i o ts h c = some (v, h1, c1)) : h1 = h ∧ c1 = c ∧ ∀ h' c', eff C E A ops i o ts h' c' = some (v, h', c') := by
  unfold eff at he ⊢
  rw [hc] at he
  simp only [hc]
  cases hw : wants ops o ts with
  | none => rw [hw] at he; cases he
  | some w =>
    rw [hw] at he
    cases w with
    | false =>
      simp only [Option.some.injEq, Prod.mk.injEq] at he
      obtain ⟨rfl, rfl, rfl⟩ := he
      exact ⟨rfl, rfl, fun _ _ => rfl⟩
    | true =>
      simp only at he ⊢
      cases hp : pureOp C.P (opd ts) o.op with
      | none => rw [hp] at he; cases he
      | some x =>
        rw [hp] at he
        simp only [Option.map_some, Option.some.injEq, Prod.mk.injEq] at he
        obtain ⟨rfl, rfl, rfl⟩ := he
        exact ⟨rfl, rfl, fun _ _ => rfl⟩
theorem eff_alloc (hc : cls C o.op = 1) {h h1 : Heap} {c c1 : Nat} {v : V} (he : eff C E A ops i o ts h c = some (v, h1, c1)) :
    (h1 = h ∧ c1 = c ∧ ∀ h' c', eff C E A ops i o ts h' c' = some (v, h', c')) ∨ ∃ p ob, h1 = h.upd p (A.base + i) (some ob) ∧ c1 = c ∧ ∀ h' c', eff C E A ops i o ts h' c' = some (v, h'.upd p (A.base + i) (some ob), c') := by
  unfold eff at he ⊢
  rw [hc] at he
  simp only [hc]
  cases hw : wants ops o ts with
  | none => rw [hw] at he; cases he
  | some w =>
    rw [hw] at he
    cases w with
    | false =>
      simp only [Option.some.injEq, Prod.mk.injEq] at he
      obtain ⟨rfl, rfl, rfl⟩ := he
      exact Or.inl ⟨rfl, rfl, fun _ _ => rfl⟩
    | true =>
      simp only at he ⊢
      cases hp : allocOp C.P (opd ts) o.type o.op with
      | none => rw [hp] at he; cases he
      | some x =>
        rw [hp] at he
        simp only [Option.map_some, Option.some.injEq, Prod.mk.injEq] at he
        obtain ⟨rfl, rfl, rfl⟩ := he
        exact Or.inr ⟨_, _, rfl, rfl, fun _ _ => rfl⟩
theorem eff_load (hc : cls C o.op = 2) {h h1 : Heap} {c c1 : Nat} {v : V} (he : eff C E A ops i o ts h c = some (v, h1, c1)) :
    h1 = h ∧ c1 = c ∧ ∀ h' c', (wants ops o ts = some true → rootOk C A i ts o.op = true → ∀ p g, keyAt ts o.op = some (p, g) → (h' p g).map (·.o) = (h p g).map (·.o)) → eff C E A ops i o ts h' c' = some (v, h', c') := by
  unfold eff at he ⊢
  rw [hc] at he
  simp only [hc]
  cases hw : wants ops o ts with
  | none => rw [hw] at he; cases he
  | some w =>
    rw [hw] at he
    cases w with
    | false =>
      simp only [Option.some.injEq, Prod.mk.injEq] at he
      obtain ⟨rfl, rfl, rfl⟩ := he
      exact ⟨rfl, rfl, fun _ _ _ => rfl⟩
    | true =>
      simp only at he ⊢
      split at he
      · next hok =>
        cases hp : loadOp C.P h (opd ts) o.op with
        | none => rw [hp] at he; cases he
        | some x =>
          rw [hp] at he
          simp only [Option.map_some, Option.some.injEq, Prod.mk.injEq] at he
          obtain ⟨rfl, rfl, rfl⟩ := he
          refine ⟨rfl, rfl, fun h' c' hl => ?_⟩
          rw [if_pos hok, loadOp_local (hl trivial (by simp only [Bool.and_eq_true] at hok; exact hok.1)), hp]
          rfl
      · cases he
theorem eff_value (hd : A.dr = true) (hc : cls C o.op = 3) {h h1 : Heap} {c c1 : Nat} {v : V} (he : eff C E A ops i o ts h c = some (v, h1, c1)) : ∀ q k, (h1 q k).map (·.o) = (h q k).map (·.o) := by
  unfold eff at he
  rw [hc] at he
  cases hw : wants ops o ts with
  | none => rw [hw] at he; cases he
  | some w =>
    rw [hw] at he
    cases w with
    | false =>
      simp only [Option.some.injEq, Prod.mk.injEq] at he
      obtain ⟨rfl, rfl, rfl⟩ := he
      exact fun _ _ => rfl
    | true =>
      simp only at he
      split at he
      · split at he
        · next f vs _ =>
          cases hp : valueCall C E (h.view A) f vs with
          | none => rw [hp] at he; cases he
          | some r =>
            rw [hp] at he
            simp only [Option.map_some, Option.some.injEq, Prod.mk.injEq] at he
            obtain ⟨rfl, rfl, rfl⟩ := he
            intro q k
            rw [merge_apply _ _ _ hd]
            split
            · rfl
            · next hn => rw [freeze_o, view_apply _ _ hd, if_neg hn]
        · cases he
      · cases he
theorem covers_cons {k x : Key} {ks : List Key} (h : covers ks x = true) : covers (k :: ks) x = true := by
  simp only [covers, List.contains_cons, Bool.or_eq_true] at h ⊢
  rcases h with h | h
  · exact Or.inl (Or.inr h)
  · exact Or.inr (Or.inr h)
theorem covers_all {x : Key} {ks : List Key} : covers (allKey :: ks) x = true := by simp [covers]
theorem mem_hidden {p : List Nat} {g t : Nat} : ∀ {l : List Nat}, t ∈ l → keyOf (ts t) = some (p, g) → covers (hidden ts l) (p, g) = true
  | [], ht, _ => by cases ht
  | x :: l, ht, hk => by
    simp only [hidden]
    split
    · exact covers_all
    · rcases List.mem_cons.1 ht with rfl | ht
      · rw [hk]; simp [covers]
      · cases keyOf (ts x) with
        | none => exact mem_hidden ht hk
        | some y => exact covers_cons (mem_hidden ht hk)
theorem all_hidden {x : Key} : ∀ {l : List Nat}, 1000000 ∈ l → covers (hidden ts l) x = true
  | [], ht => by cases ht
  | y :: l, ht => by
    simp only [hidden]
    split
    · exact covers_all
    · next hne =>
      rcases List.mem_cons.1 ht with hh | ht
      · exact absurd hh.symm hne
      · cases keyOf (ts y) with
        | none => exact all_hidden ht
        | some y => exact covers_cons (all_hidden ht)
theorem eff_hidden (hd : A.dr = true) (hc : cls C o.op = 4 ∨ cls C o.op = 5) {h h1 : Heap} {c c1 : Nat} {v : V} (he : eff C E A ops i o ts h c = some (v, h1, c1)) {p : List Nat} {g : Nat} (hcont : covers (hideKs C A i ts) (p, g) = true) : h1 p g = h p g := by
  unfold eff at he
  cases hw : wants ops o ts with
  | none => rw [hw] at he; cases he
  | some w =>
    rw [hw] at he
    cases w with
    | false =>
      simp only [Option.some.injEq, Prod.mk.injEq] at he
      obtain ⟨rfl, rfl, rfl⟩ := he
      rfl
    | true =>
      rcases hc with hc | hc
      · rw [hc] at he
        simp only at he
        cases hp : effOp C E (nameOf A o.dst) ((h.view A).hide (hideKs C A i ts)) c (opd ts) o.op with
        | none => rw [hp] at he; cases he
        | some r =>
          rw [hp] at he
          simp only [Option.map_some, Option.some.injEq, Prod.mk.injEq] at he
          obtain ⟨rfl, rfl, rfl⟩ := he
          rw [merge_apply _ _ _ hd]
          split
          · rfl
          · next hn => rw [unhide_apply, if_pos hcont, view_apply _ _ hd, if_neg hn]
      · rw [hc] at he
        simp only at he
        split at he
        · cases hp : storeOp C.P (h.hide (hideKs C A i ts)) (opd ts) o.op with
          | none => rw [hp] at he; cases he
          | some r =>
            rw [hp] at he
            simp only [Option.map_some, Option.some.injEq, Prod.mk.injEq] at he
            obtain ⟨rfl, rfl, rfl⟩ := he
            rw [unhide_apply, if_pos hcont]
        · cases he

theorem view_upd (hd : A.dr = true) {k : Nat} (hk : k < A.n) (h : Heap) (p : List Nat) (x : Option Ob) : (h.upd p (A.base + k) x).view A = h.view A := by
  funext q g
  rw [view_apply _ _ hd, view_apply _ _ hd]
  split
  · rfl
  · next hn =>
    rw [upd_apply, if_neg]
    rintro ⟨rfl, _⟩
    exact hn ⟨by omega, by omega⟩
theorem merge_upd (hd : A.dr = true) {k : Nat} (hk : k < A.n) (h h' : Heap) (p : List Nat) (x : Option Ob) : (h.upd p (A.base + k) x).merge A h' = (h.merge A h').upd p (A.base + k) x := by
  funext q g
  rw [merge_apply _ _ _ hd, upd_apply, upd_apply, merge_apply _ _ _ hd]
  by_cases hq : g = A.base + k ∧ q = p
  · rw [if_pos hq, if_pos hq, if_pos ⟨by omega, by omega⟩]
  · rw [if_neg hq, if_neg hq]

theorem eff_upd (hd : A.dr = true) (hc : 2 ≤ cls C o.op ∧ cls C o.op ≤ 5) {k : Nat} (hk : k < A.n) (hown : C.own A.F A.rid i ≠ some k) (h : Heap) (c : Nat) (p : List Nat) (ob : Ob) :
    eff C E A ops i o ts (h.upd p (A.base + k) (some ob)) c = (eff C E A ops i o ts h c).map fun r => (r.1, r.2.1.upd p (A.base + k) (some ob), r.2.2) := by
  have hkey : ownOk C A i (keyAt ts o.op) = true → ∀ q g, keyAt ts o.op = some (q, g) → g ≠ A.base + k := by
    intro hok q g hq hg
    rw [hq] at hok
    unfold ownOk at hok
    rw [if_pos hd] at hok
    simp only at hok
    rw [if_pos ⟨by omega, by omega⟩] at hok
    simp only [beq_iff_eq] at hok
    rw [hok] at hown
    exact hown (by rw [hg]; congr 1; omega)
  unfold eff
  cases hw : wants ops o ts with
  | none => rfl
  | some w =>
    cases w with
    | false => rfl
    | true =>
      simp only
      have h4 : cls C o.op = 2 ∨ cls C o.op = 3 ∨ cls C o.op = 4 ∨ cls C o.op = 5 := by omega
      rcases h4 with h2 | h2 | h2 | h2
      · rw [h2]
        simp only
        split
        · next hok =>
          simp only [Bool.and_eq_true] at hok
          rw [loadOp_local (h2 := h.upd p (A.base + k) (some ob)) (h := h) fun q g hq => by rw [upd_apply, if_neg fun hh => hkey hok.2 q g hq hh.1]]
          cases loadOp C.P h (opd ts) o.op <;> rfl
        · rfl
      · rw [h2]
        simp only
        split
        · split
          · next f vs _ =>
            rw [view_upd hd hk]
            cases valueCall C E (h.view A) f vs with
            | none => rfl
            | some r => simp only [Option.map_some, merge_upd hd hk]
          · rfl
        · rfl
      · rw [h2]
        simp only
        rw [view_upd hd hk]
        cases effOp C E (nameOf A o.dst) ((h.view A).hide (hideKs C A i ts)) c (opd ts) o.op with
        | none => rfl
        | some r => simp only [Option.map_some, merge_upd hd hk]
      · rw [h2]
        simp only
        split
        · next hok =>
          rcases storeOp_local C.P ts o.op with hn | ⟨q, g, hq, f, hf⟩
          · rw [hn, hn]; rfl
          · have hne := hkey hok q g hq
            rw [hf, hf]
            have e1 : (h.upd p (A.base + k) (some ob)).hide (hideKs C A i ts) q g = h.hide (hideKs C A i ts) q g := by
              rw [hide_apply, hide_apply]
              split
              · rfl
              · rw [upd_apply, if_neg fun hh => hne hh.1]
            rw [e1]
            cases f (h.hide (hideKs C A i ts) q g) with
            | none => rfl
            | some ob' =>
              simp only [Option.map_some, Option.some.injEq, Prod.mk.injEq, and_true, true_and]
              funext r j
              rw [unhide_apply, upd_apply, upd_apply, upd_apply, hide_apply, upd_apply, unhide_apply, upd_apply, hide_apply]
              by_cases hj : j = A.base + k ∧ r = p
              · rw [if_pos hj]
                have : ¬ (j = g ∧ r = q) := fun hh => hne (hh.1 ▸ hj.1)
                rw [if_neg this]
                split <;> rfl
              · rw [if_neg hj, if_neg hj]
        · rfl
end
end Go.Pv
/- Entries of unlike keys that are put into maps: their order is of no weight. Conditions: as each lemma says. -/
namespace Go.Pv

theorem findI_insI {a b : Int} (hab : b ≠ a) (x : V) : ∀ es : List (Int × V), findI b (insI a x es) = findI b es
  | [] => by simp [insI, findI, hab]
  | (j, v) :: es => by
    simp only [insI]
    split
    · simp [findI, hab]
    · simp only [findI, findI_insI hab x es]
theorem insI_comm {a b : Int} (hab : a ≠ b) (x y : V) : ∀ es : List (Int × V), insI a x (insI b y es) = insI b y (insI a x es)
  | [] => by
    simp only [insI]
    rcases Int.lt_or_lt_of_ne hab with h | h
    · rw [if_pos h, if_neg (by omega)]
    · rw [if_neg (by omega), if_pos h]
  | (j, v) :: es => by
    simp only [insI]
    by_cases ha : a < j
    · by_cases hb : b < j
      · rw [if_pos ha, if_pos hb]
        simp only [insI]
        rcases Int.lt_or_lt_of_ne hab with h | h
        · rw [if_pos h, if_neg (by omega), if_pos hb]
        · rw [if_neg (by omega), if_pos ha, if_pos h]
      · rw [if_pos ha, if_neg hb]
        simp only [insI]
        rw [if_pos ha, if_neg (by omega), if_neg hb]
    · by_cases hb : b < j
      · rw [if_neg ha, if_pos hb]
        simp only [insI]
        rw [if_neg (by omega), if_neg ha, if_pos hb]
      · rw [if_neg ha, if_neg hb]
        simp only [insI]
        rw [if_neg ha, if_neg hb, insI_comm hab x y es]

/-- Two entries of unlike keys. -/
def insApart : Op → Op → Bool
  | .insert _ _ (.const (.int _ a)) _, .insert _ _ (.const (.int _ b)) _ => a != b
  | _, _ => false

section
variable {C : Cfg} {E : Env} {A : At} {ops : Array Oper} {i j : Nat} {oi oj o : Oper} {ts : Tmps}

theorem eff_ins {t : TypeId} {m x : Operand} {kk : IntKind} {a : Int} (hop : o.op = .insert t m (.const (.int kk a)) x) :
    (∀ h c, eff C E A ops i o ts h c = some (.undef, h, c)) ∨ (∀ h c, eff C E A ops i o ts h c = none) ∨
    ∃ p g K val, ∀ h c, eff C E A ops i o ts h c = match h p g with
      | some ⟨false, .mp k' es⟩ => if k' = K ∧ (findI a es).isNone then some (.undef, h.upd p g (some ⟨false, .mp K (insI a val es)⟩), c) else none
      | _ => none := by
  cases hw : wants ops o ts with
  | none => exact Or.inr (Or.inl fun h c => by unfold eff; rw [hw])
  | some w =>
    cases w with
    | false => exact Or.inl fun h c => by unfold eff; rw [hw]
    | true =>
      have hcls : cls C o.op = 5 := by rw [hop]; rfl
      have hE : ∀ h c, eff C E A ops i o ts h c = if ownOk C A i (keyAt ts o.op) then (storeOp C.P (h.hide (hideKs C A i ts)) (opd ts) o.op).map fun h' => (.undef, h.unhide (hideKs C A i ts) h', c) else none := by
        intro h c
        unfold eff
        rw [hw, hcls]
        simp only
      by_cases hown : ownOk C A i (keyAt ts o.op) = true
      · simp only [hown, if_true] at hE
        rw [hop] at hE
        simp only [storeOp] at hE
        have hkey : opd ts (.const (.int kk a)) = .t (.int kk a) := rfl
        simp only [hkey] at hE
        cases hu : C.P.underlying t with
        | none => exact Or.inr (Or.inl fun h c => by rw [hE, hu]; rfl)
        | some d =>
          cases d with
          | map kt e =>
            cases hm : opd ts m with
            | mp p g =>
              cases hk : intT C.P kt with
              | none => exact Or.inr (Or.inl fun h c => by rw [hE, hu]; simp only [hm, hk]; rfl)
              | some j' =>
                by_cases hks : covers (hideKs C A i ts) (p, g) = true
                · refine Or.inr (Or.inl fun h c => ?_)
                  rw [hE, hu]
                  simp only [hm, hk]
                  have : h.hide (hideKs C A i ts) p g = none := by rw [hide_apply, if_pos hks]
                  rw [this]; rfl
                · by_cases hst : kk = j' ∧ (opd ts x).still = true ∧ (opd ts x).ncells = sz C.P e
                  · refine Or.inr (Or.inr ⟨p, g, kk, opd ts x, fun h c => ?_⟩)
                    rw [hE, hu]
                    simp only [hm, hk]
                    have : h.hide (hideKs C A i ts) p g = h p g := by rw [hide_apply, if_neg hks]
                    rw [this]
                    cases hpg : h p g with
                    | none => rfl
                    | some ob =>
                      obtain ⟨fz, oc⟩ := ob
                      cases fz with
                      | true => cases oc <;> rfl
                      | false =>
                        cases oc with
                        | mp k' es =>
                          simp only
                          by_cases hc2 : k' = kk ∧ (findI a es).isNone = true
                          · rw [if_pos hc2, if_pos ⟨hst.1, hc2.1, hc2.2, hst.2.1, hst.2.2⟩, hc2.1]
                            simp only [Option.map_some, Option.some.injEq, Prod.mk.injEq, and_true, true_and]
                            funext q k
                            rw [unhide_apply, upd_apply, upd_apply, hide_apply]
                            by_cases hq : k = g ∧ q = p
                            · obtain ⟨rfl, rfl⟩ := hq
                              rw [if_neg hks, if_pos ⟨rfl, rfl⟩, if_pos ⟨rfl, rfl⟩]
                            · rw [if_neg hq, if_neg hq]
                              split <;> rfl
                          · rw [if_neg hc2, if_neg (fun hh => hc2 ⟨hh.2.1, hh.2.2.1⟩)]
                            rfl
                        | row es => rfl
                        | it s pos => rfl
                  · refine Or.inr (Or.inl fun h c => ?_)
                    rw [hE, hu]
                    simp only [hm, hk]
                    cases h.hide (hideKs C A i ts) p g with
                    | none => rfl
                    | some ob =>
                      obtain ⟨fz, oc⟩ := ob
                      cases fz with
                      | true => cases oc <;> rfl
                      | false =>
                        cases oc with
                        | mp k' es =>
                          simp only
                          rw [if_neg (fun hh => hst ⟨hh.1, hh.2.2.2.1, hh.2.2.2.2⟩)]
                          rfl
                        | row es => rfl
                        | it s pos => rfl
            | _ => exact Or.inr (Or.inl fun h c => by rw [hE, hu]; simp only [hm]; rfl)
          | _ => exact Or.inr (Or.inl fun h c => by rw [hE, hu]; rfl)
      · refine Or.inr (Or.inl fun h c => ?_)
        rw [hE, if_neg hown]

theorem ins_comm (hap : insApart oi.op oj.op = true) {h h1 h2 : Heap} {c c1 c2 : Nat} {v w : V}
    (e1 : eff C E A ops i oi ts h c = some (v, h1, c1)) (e2 : eff C E A ops j oj ts h1 c1 = some (w, h2, c2)) : ∃ h' c', eff C E A ops j oj ts h c = some (w, h', c') ∧ eff C E A ops i oi ts h' c' = some (v, h2, c2) := by
  obtain ⟨t, m, k, a, x, t', m', k', b, x', hi, hj, hab⟩ : ∃ t m k a x t' m' k' b x', oi.op = .insert t m (.const (.int k a)) x ∧ oj.op = .insert t' m' (.const (.int k' b)) x' ∧ a ≠ b := by
    unfold insApart at hap
    split at hap
    · next t m k a x t' m' k' b x' h1 h2 => exact ⟨t, m, k, a, x, t', m', k', b, x', h1, h2, by simpa using hap⟩
    · cases hap
  rcases eff_ins (C := C) (E := E) (A := A) (ops := ops) (i := i) (ts := ts) hi with f1 | f1 | ⟨p, g, K, va, f1⟩
  · rw [f1] at e1
    simp only [Option.some.injEq, Prod.mk.injEq] at e1
    obtain ⟨rfl, rfl, rfl⟩ := e1
    exact ⟨h2, c2, e2, f1 _ _⟩
  · rw [f1] at e1; cases e1
  · rcases eff_ins (C := C) (E := E) (A := A) (ops := ops) (i := j) (ts := ts) hj with f2 | f2 | ⟨p', g', K', vb, f2⟩
    · rw [f2] at e2
      simp only [Option.some.injEq, Prod.mk.injEq] at e2
      obtain ⟨rfl, rfl, rfl⟩ := e2
      exact ⟨h, c, f2 _ _, e1⟩
    · rw [f2] at e2; cases e2
    · rw [f1] at e1
      split at e1
      · next k1 es hpg =>
        split at e1
        · next hc1 =>
          obtain ⟨rfl, hn1⟩ := hc1
          simp only [Option.some.injEq, Prod.mk.injEq] at e1
          obtain ⟨rfl, rfl, rfl⟩ := e1
          rw [f2] at e2
          by_cases hk : g' = g ∧ p' = p
          · obtain ⟨rfl, rfl⟩ := hk
            rw [upd_apply, if_pos ⟨rfl, rfl⟩] at e2
            simp only at e2
            split at e2
            · next hc2 =>
              obtain ⟨rfl, hn2⟩ := hc2
              simp only [Option.some.injEq, Prod.mk.injEq] at e2
              obtain ⟨rfl, rfl, rfl⟩ := e2
              rw [findI_insI (Ne.symm hab)] at hn2
              refine ⟨h.upd p' g' (some ⟨false, .mp k1 (insI b vb es)⟩), c, ?_, ?_⟩
              · rw [f2, hpg]
                simp only
                rw [if_pos ⟨trivial, hn2⟩]
              · rw [f1, upd_apply, if_pos ⟨rfl, rfl⟩]
                simp only
                rw [if_pos ⟨trivial, by rw [findI_insI hab]; exact hn1⟩]
                simp only [Option.some.injEq, Prod.mk.injEq, and_true, true_and]
                funext q r
                simp only [upd_apply]
                split
                · rw [insI_comm hab]
                · rfl
            · cases e2
          · rw [upd_apply, if_neg hk] at e2
            split at e2
            · next k2 es2 hpg2 =>
              split at e2
              · next hc2 =>
                simp only [Option.some.injEq, Prod.mk.injEq] at e2
                obtain ⟨rfl, rfl, rfl⟩ := e2
                refine ⟨h.upd p' g' (some ⟨false, .mp K' (insI b vb es2)⟩), c, ?_, ?_⟩
                · rw [f2, hpg2]
                  simp only
                  rw [if_pos hc2]
                · rw [f1, upd_apply, if_neg (fun hh => hk ⟨hh.1.symm, hh.2.symm⟩), hpg]
                  simp only
                  rw [if_pos ⟨trivial, hn1⟩]
                  simp only [Option.some.injEq, Prod.mk.injEq, and_true, true_and]
                  funext q r
                  simp only [upd_apply]
                  by_cases q1 : r = g ∧ q = p
                  · rw [if_pos q1, if_neg (fun hh => hk ⟨hh.1.symm.trans q1.1, hh.2.symm.trans q1.2⟩), if_pos q1]
                  · rw [if_neg q1, if_neg q1]
              · cases e2
            · cases e2
        · cases e1
      · cases e1
end
end Go.Pv
/- Regions that draw their order: what they come to is what the text's order comes to. Conditions: as each lemma says. -/
namespace Go.Pv

def apartT (C : Cfg) (F : FuncId) (rid l e : Nat) : Bool := (C.hide F rid e).contains 1000000 || match C.rt F rid l with
  | some none => true
  | some (some t) => (C.hide F rid e).contains t
  | none => false
def commCls (C : Cfg) (F : FuncId) (rid i j : Nat) (oi oj : Oper) : Bool :=
  cls C oi.op == 0 || cls C oj.op == 0 || (cls C oi.op == 1 && cls C oj.op == 1)
  || (cls C oi.op == 1 && (Nat.ble 2 (cls C oj.op) && Nat.ble (cls C oj.op) 5) && C.own F rid j != some i)
  || (cls C oj.op == 1 && (Nat.ble 2 (cls C oi.op) && Nat.ble (cls C oi.op) 5) && C.own F rid i != some j)
  || (cls C oi.op == 2 && (cls C oj.op == 2 || cls C oj.op == 3)) || (cls C oi.op == 3 && cls C oj.op == 2)
  || (cls C oi.op == 2 && (cls C oj.op == 4 || cls C oj.op == 5) && apartT C F rid i j)
  || (cls C oj.op == 2 && (cls C oi.op == 4 || cls C oi.op == 5) && apartT C F rid j i)
  || insApart oi.op oj.op
def freeOf (d : Option Nat) (l : List Nat) : Bool := match d with
  | some d => !l.contains d
  | none => true
def apartD : Option Nat → Option Nat → Bool
  | some a, some b => a != b
  | _, _ => true
/-- Two steps that don't mind their order. -/
def comm (C : Cfg) (F : FuncId) (rid : Nat) (ops : Array Oper) (i j : Nat) (oi oj : Oper) : Bool :=
  commCls C F rid i j oi oj && freeOf oi.dst (usesT C F rid ops j oj) && freeOf oj.dst (usesT C F rid ops i oi) && apartD oi.dst oj.dst

section
variable {C : Cfg} {E : Env} {A : At} {ops : Array Oper} {i j : Nat} {oi oj : Oper} {ts : Tmps}

theorem root_key {l e : Nat} {op : Op} (hd : A.dr = true) (hr : rootOk C A l ts op = true) (ha : apartT C A.F A.rid l e = true) {p : List Nat} {g : Nat} (hk : keyAt ts op = some (p, g)) : covers (hideKs C A e ts) (p, g) = true := by
  unfold apartT at ha
  unfold rootOk at hr
  unfold keyAt at hk
  rw [if_pos hd] at hr
  unfold hideKs
  rw [if_pos hd]
  rw [Bool.or_eq_true] at ha
  rcases ha with ha | ha
  · exact all_hidden (by simpa using ha)
  cases hx : addrOf op with
  | none => rw [hx] at hk; cases hk
  | some x =>
    rw [hx] at hk hr
    simp only [Option.bind_some] at hk
    cases hrt : C.rt A.F A.rid l with
    | none => rw [hrt] at ha; cases ha
    | some r =>
      rw [hrt] at ha hr
      cases r with
      | none => simp only [hk] at hr; cases hr
      | some t =>
        simp only [hk] at hr
        cases hkt : keyOf (ts t) with
        | none => rw [hkt] at hr; cases hr
        | some k' =>
          rw [hkt] at hr
          simp only [beq_iff_eq] at hr
          refine mem_hidden (t := t) (by simpa using ha) ?_
          rw [hkt, ← hr]

theorem eff_comm (hd : A.dr = true) (hij : i ≠ j) (hi : i < A.n) (hj : j < A.n) (hcm : commCls C A.F A.rid i j oi oj = true) {h h1 h2 : Heap} {c c1 c2 : Nat} {v w : V}
    (e1 : eff C E A ops i oi ts h c = some (v, h1, c1)) (e2 : eff C E A ops j oj ts h1 c1 = some (w, h2, c2)) : ∃ h' c', eff C E A ops j oj ts h c = some (w, h', c') ∧ eff C E A ops i oi ts h' c' = some (v, h2, c2) := by
  unfold commCls at hcm
  simp only [Bool.or_eq_true, Bool.and_eq_true, beq_iff_eq, bne_iff_ne, ne_eq, Nat.ble_eq] at hcm
  rcases hcm with ((((((((h0 | h0) | ⟨h0, h0'⟩) | ⟨⟨h0, h0'⟩, ho⟩) | ⟨⟨h0, h0'⟩, ho⟩) | ⟨h0, h0'⟩) | ⟨h0, h0'⟩) | ⟨⟨h0, h0'⟩, ha⟩) | ⟨⟨h0, h0'⟩, ha⟩) | hap
  · obtain ⟨rfl, rfl, k⟩ := eff_pure h0 e1
    exact ⟨h2, c2, e2, k h2 c2⟩
  · obtain ⟨rfl, rfl, k⟩ := eff_pure h0 e2
    exact ⟨h, c, k h c, e1⟩
  · rcases eff_alloc h0 e1 with ⟨rfl, rfl, k⟩ | ⟨p, ob, rfl, rfl, k⟩
    · exact ⟨h2, c2, e2, k h2 c2⟩
    · rcases eff_alloc h0' e2 with ⟨rfl, rfl, k'⟩ | ⟨q, ob', rfl, rfl, k'⟩
      · exact ⟨h, _, k' h _, e1⟩
      · refine ⟨h.upd q (A.base + j) (some ob'), _, k' h _, ?_⟩
        rw [k]
        congr 3
        funext r g
        simp only [upd_apply]
        by_cases h1 : g = A.base + i ∧ r = p
        · rw [if_pos h1, if_neg (by omega), if_pos h1]
        · rw [if_neg h1, if_neg h1]
  · rcases eff_alloc h0 e1 with ⟨rfl, rfl, k⟩ | ⟨p, ob, rfl, rfl, k⟩
    · exact ⟨h2, c2, e2, k h2 c2⟩
    · rw [eff_upd hd h0' hi ho] at e2
      cases he : eff C E A ops j oj ts h c1 with
      | none => rw [he] at e2; cases e2
      | some r =>
        obtain ⟨w', h', c'⟩ := r
        rw [he] at e2
        simp only [Option.map_some, Option.some.injEq, Prod.mk.injEq] at e2
        obtain ⟨rfl, rfl, rfl⟩ := e2
        exact ⟨h', c', rfl, k h' c'⟩
  · rcases eff_alloc h0 e2 with ⟨rfl, rfl, k⟩ | ⟨q, ob, rfl, rfl, k⟩
    · exact ⟨h, c, k h c, e1⟩
    · refine ⟨h.upd q (A.base + j) (some ob), c, k h c, ?_⟩
      rw [eff_upd hd h0' hj ho, e1]
      rfl
  · obtain ⟨rfl, rfl, k⟩ := eff_load h0 e1
    refine ⟨h2, c2, e2, k h2 c2 fun _ _ p g _ => ?_⟩
    rcases h0' with h0' | h0'
    · obtain ⟨rfl, rfl, _⟩ := eff_load h0' e2
      rfl
    · exact eff_value hd h0' e2 p g
  · obtain ⟨rfl, rfl, k⟩ := eff_load h0' e2
    exact ⟨h, c, k h c fun _ _ p g _ => (eff_value hd h0 e1 p g).symm, e1⟩
  · obtain ⟨rfl, rfl, k⟩ := eff_load h0 e1
    exact ⟨h2, c2, e2, k h2 c2 fun _ hr p g hk => by rw [eff_hidden hd h0' e2 (root_key hd hr ha hk)]⟩
  · obtain ⟨rfl, rfl, k⟩ := eff_load h0 e2
    exact ⟨h, c, k h c fun _ hr p g hk => by rw [eff_hidden hd h0' e1 (root_key hd hr ha hk)], e1⟩
  · exact ins_comm hap e1 e2

theorem free_put {d : Option Nat} {l : List Nat} (hf : freeOf d l = true) (v : V) : ∀ t ∈ l, ts.put d v t = ts t := by
  intro t ht
  cases d with
  | none => rfl
  | some d =>
    simp only [freeOf, Bool.not_eq_true', List.contains_eq_mem, decide_eq_false_iff_not] at hf
    simp only [Tmps.put, Tmps.upd]
    rw [if_neg]
    rintro rfl
    exact hf ht
theorem put_put {d d' : Option Nat} (ha : apartD d d' = true) (v w : V) : (ts.put d v).put d' w = (ts.put d' w).put d v := by
  cases d with
  | none => rfl
  | some d =>
    cases d' with
    | none => rfl
    | some d' =>
      simp only [apartD, bne_iff_ne, ne_eq] at ha
      funext t
      simp only [Tmps.put, Tmps.upd]
      by_cases h1 : t = d
      · subst h1; simp [ha]
      · rw [if_neg h1, if_neg h1]

theorem step_comm (hd : A.dr = true) (hij : i ≠ j) (hi : i < A.n) (hj : j < A.n) (hcm : comm C A.F A.rid ops i j oi oj = true) {s s1 s2 : St} (e1 : stepI C E A ops i oi s = some s1) (e2 : stepI C E A ops j oj s1 = some s2) :
    ∃ s', stepI C E A ops j oj s = some s' ∧ stepI C E A ops i oi s' = some s2 := by
  unfold comm at hcm
  simp only [Bool.and_eq_true] at hcm
  obtain ⟨⟨⟨hcm, f1⟩, f2⟩, f3⟩ := hcm
  rw [stepI_eff] at e1 e2
  cases he : eff C E A ops i oi s.tmps s.heap s.c with
  | none => rw [he] at e1; cases e1
  | some r =>
    obtain ⟨v, h1, c1⟩ := r
    rw [he] at e1
    simp only [Option.map_some, Option.some.injEq] at e1; subst e1
    simp only at e2
    rw [eff_congr (ts' := s.tmps) (free_put f1 v)] at e2
    cases he2 : eff C E A ops j oj s.tmps h1 c1 with
    | none => rw [he2] at e2; cases e2
    | some r2 =>
      obtain ⟨w, h2, c2⟩ := r2
      rw [he2] at e2
      simp only [Option.map_some, Option.some.injEq] at e2; subst e2
      obtain ⟨h', c', g1, g2⟩ := eff_comm hd hij hi hj hcm he he2
      refine ⟨⟨s.tmps.put oj.dst w, h', c'⟩, ?_, ?_⟩
      · rw [stepI_eff, g1]; rfl
      · rw [stepI_eff]
        simp only
        rw [eff_congr (ts' := s.tmps) (free_put f2 w), g2]
        simp only [Option.map_some, put_put f3]
end

def runL (C : Cfg) (E : Env) (A : At) (ops : Array Oper) : List Nat → St → Option St
  | [], s => some s
  | i :: l, s => match ops[i]? with
    | some o => match stepI C E A ops i o s with
      | some s => runL C E A ops l s
      | none => none
    | none => none

theorem opsRun_runL {C : Cfg} {E : Env} {A : At} {ops : Array Oper} : ∀ (os : List Oper) (i : Nat) (s : St), ops.toList.drop i = os → opsRun C E A ops i os s = runL C E A ops (List.range' i os.length) s
  | [], i, s, _ => rfl
  | o :: os, i, s, hi => by
    have hoi : ops.toList[i]? = some o := by
      have := congrArg (fun l => l[0]?) hi
      simpa using this
    rw [Array.getElem?_toList] at hoi
    simp only [opsRun, List.length_cons, List.range'_succ, runL, hoi]
    cases stepI C E A ops i o s with
    | none => rfl
    | some s1 => exact opsRun_runL os (i + 1) s1 (by rw [← List.drop_drop, hi]; rfl)

/-- Of a pair of steps: that they don't mind. -/
def commAt (C : Cfg) (F : FuncId) (rid : Nat) (ops : Array Oper) (i j : Nat) : Bool := match ops[i]?, ops[j]? with
  | some oi, some oj => comm C F rid ops i j oi oj
  | _, _ => false

theorem runL_pull {C : Cfg} {E : Env} {A : At} {ops : Array Oper} (hd : A.dr = true) {j : Nat} (hj : j < A.n) {l2 : List Nat} {s' : St} : ∀ (l1 : List Nat) (s : St), (∀ i ∈ l1, i ≠ j ∧ i < A.n ∧ commAt C A.F A.rid ops i j = true) → runL C E A ops (l1 ++ j :: l2) s = some s' → runL C E A ops (j :: (l1 ++ l2)) s = some s'
  | [], s, _, h => h
  | i :: l1, s, hl, h => by
    simp only [List.cons_append, runL] at h
    obtain ⟨hij, hi, hc⟩ := hl i (by simp)
    unfold commAt at hc
    cases hoi : ops[i]? with
    | none => rw [hoi] at hc; cases hc
    | some oi =>
      cases hoj : ops[j]? with
      | none => rw [hoi, hoj] at hc; cases hc
      | some oj =>
        rw [hoi, hoj] at hc
        rw [hoi] at h
        simp only at h hc
        cases e1 : stepI C E A ops i oi s with
        | none => rw [e1] at h; cases h
        | some s1 =>
          rw [e1] at h
          simp only at h
          have ih := runL_pull hd hj l1 s1 (fun k hk => hl k (by simp [hk])) h
          simp only [runL, hoj] at ih
          cases e2 : stepI C E A ops j oj s1 with
          | none => rw [e2] at ih; cases ih
          | some s2 =>
            rw [e2] at ih
            simp only at ih
            obtain ⟨s3, g1, g2⟩ := step_comm hd hij hi hj hc e1 e2
            simp only [List.cons_append, runL, hoj, g1, hoi, g2]
            exact ih
end Go.Pv
/- Regions that draw their order: the law. Conditions: as each lemma says. -/
namespace Go.Pv

theorem mem_ready {ops : Array Oper} {listed : Array Bool} {j : Nat} : j ∈ Region.ready .any ops listed ↔ ∃ o, ops[j]? = some o ∧ listed.getD j true = false ∧ ∀ e ∈ o.after, Region.binds .any e = true → listed.getD e.on false = true := by
  unfold Region.ready
  simp only [List.mem_filter, List.mem_range, Bool.and_eq_true, Bool.not_eq_true']
  constructor
  · rintro ⟨h1, h2, h3⟩
    obtain ⟨o, ho⟩ : ∃ o, ops[j]? = some o := ⟨_, Array.getElem?_eq_getElem h1⟩
    rw [ho] at h3
    simp only [Option.map_some, Option.getD_some, Array.all_eq_true_iff_forall_mem, Bool.or_eq_true, Bool.not_eq_true'] at h3
    refine ⟨o, ho, h2, fun e he hb => ?_⟩
    rcases h3 e he with h | h
    · rw [hb] at h; cases h
    · exact h
  · rintro ⟨o, ho, h2, h3⟩
    refine ⟨(Array.getElem?_eq_some_iff.1 ho).1, h2, ?_⟩
    rw [ho]
    simp only [Option.map_some, Option.getD_some, Array.all_eq_true_iff_forall_mem, Bool.or_eq_true, Bool.not_eq_true']
    intro e he
    cases hb : Region.binds .any e with
    | false => exact Or.inl rfl
    | true => exact Or.inr (h3 e he hb)

theorem getD_set {listed : Array Bool} {j k : Nat} (d : Bool) (hj : j < listed.size) : (listed.setIfInBounds j true).getD k d = if k = j then true else listed.getD k d := by
  simp only [Array.getD_eq_getD_getElem?]
  by_cases h : k = j
  · subst h; simp [hj]
  · rw [if_neg h, Array.getElem?_setIfInBounds_ne (Ne.symm h)]

theorem draw_wp {C : Cfg} {E : Env} (hG : Good C E) {A : At} {ops : Array Oper} (hdr : A.dr = true) (hn : A.n = ops.size) {B N : Nat} {anc : Nat → Nat → Bool}
    (hedge : ∀ (j : Nat) (o : Oper), ops[j]? = some o → ∀ e ∈ o.after, Region.binds .any e = true → e.on < j)
    (hanc : ∀ (j : Nat) (o : Oper) (i : Nat), ops[j]? = some o → anc j i = true → ∃ e ∈ o.after, Region.binds .any e = true ∧ (e.on = i ∨ anc e.on i = true))
    (hcomm : ∀ i j, i < j → j < ops.size → anc j i = true ∨ commAt C A.F A.rid ops i j = true)
    (hd : ∀ (j : Nat) (o : Oper), ops[j]? = some o → ∀ k, o.dst = some k → k < N) {r : Option Nat} {n : Nat} {Q : Exit → Act → World → Prop} :
    ∀ (l : List Nat) (listed : Array Bool) (s s' : St), l.Pairwise (· < ·) → listed.size = ops.size → (∀ i, i ∈ l ↔ i < ops.size ∧ listed.getD i true = false) → (∀ k i, k < ops.size → listed.getD k true = true → anc k i = true → i < ops.size → listed.getD i true = true) →
      runL C E A ops l s = some s' → A.base + ops.size ≤ s.c → ∀ (X : Ctx) (a : Act), SRel X B N s a → (∀ k, X.u k → k < s.c ∧ (k < A.base ∨ A.base + ops.size ≤ k ∨ ∃ i, i < ops.size ∧ i ∉ l ∧ k = A.base + i)) →
      (∀ Y a', Goes A.base B N X Y s s' a a' → (∀ k, Y.u k → k < s'.c) → Q .normal a' Y.w) → wpAnyIn (FR r) n C.P .any ops Q l.length listed a X.w := by
  intro l
  generalize hlen : l.length = m
  induction m generalizing l with
  | zero =>
    intro listed s s' hp hsz hl hdn hrun hb X a hS hu hQ
    have : l = [] := List.eq_nil_of_length_eq_zero hlen
    subst this
    simp only [runL, Option.some.injEq] at hrun; subst hrun
    refine ⟨?_, hQ X a (Goes.refl hS) fun k hk => (hu k hk).1⟩
    cases hr : Region.ready .any ops listed with
    | nil => rfl
    | cons x xs =>
      have hx : x ∈ Region.ready .any ops listed := by rw [hr]; simp
      obtain ⟨o, ho, h1, _⟩ := mem_ready.1 hx
      have := (hl x).2 ⟨(Array.getElem?_eq_some_iff.1 ho).1, h1⟩
      simp at this
  | succ m ih =>
    intro listed s s' hp hsz hl hdn hrun hb X a hS hu hQ
    have listedOf : ∀ k, k < ops.size → ∀ d, listed.getD k d = listed.getD k true := by
      intro k hk d
      simp only [Array.getD_eq_getD_getElem?]
      rw [Array.getElem?_eq_getElem (by omega)]
      rfl
    refine ⟨fun hr => ?_, fun j hj => ?_⟩
    · exfalso
      cases l with
      | nil => cases hlen
      | cons x xs =>
        obtain ⟨hx1, hx2⟩ := (hl x).1 (by simp)
        have hx : x ∈ Region.ready .any ops listed := by
          refine mem_ready.2 ⟨_, Array.getElem?_eq_getElem hx1, hx2, fun e he hbn => ?_⟩
          have hlt := hedge x _ (Array.getElem?_eq_getElem hx1) e he hbn
          rw [listedOf e.on (by omega)]
          cases hq : listed.getD e.on true with
          | true => rfl
          | false =>
            have hmem := (hl e.on).2 ⟨by omega, hq⟩
            rcases List.mem_cons.1 hmem with hh | hh
            · omega
            · have := (List.pairwise_cons.1 hp).1 _ hh
              omega
        rw [hr] at hx
        cases hx
    · obtain ⟨o, ho, h1, h2⟩ := mem_ready.1 hj
      have hjs : j < ops.size := (Array.getElem?_eq_some_iff.1 ho).1
      have hjl := (hl j).2 ⟨hjs, h1⟩
      obtain ⟨l1, l2, rfl⟩ := List.append_of_mem hjl
      have hp' := List.pairwise_append.1 hp
      have hjl1 : ∀ i ∈ l1, i < j := fun i hi => hp'.2.2 i hi j (by simp)
      have hjl2 : ∀ i ∈ l2, j < i := fun i hi => (List.pairwise_cons.1 hp'.2.1).1 i hi
      have hpull : runL C E A ops (j :: (l1 ++ l2)) s = some s' := by
        refine runL_pull hdr (by omega) l1 s (fun i hi => ?_) hrun
        have hij := hjl1 i hi
        obtain ⟨hi1, hi2⟩ := (hl i).1 (by simp [hi])
        refine ⟨by omega, by omega, ?_⟩
        rcases hcomm i j hij hjs with hh | hh
        · exfalso
          obtain ⟨e, he, hbn, hor⟩ := hanc j o i ho hh
          have hlt := hedge j o ho e he hbn
          have hle := h2 e he hbn
          rw [listedOf e.on (by omega)] at hle
          rcases hor with rfl | hor
          · rw [hi2] at hle; cases hle
          · have := hdn e.on i (by omega) hle hor hi1
            rw [hi2] at this; cases this
        · exact hh
      simp only [runL, ho] at hpull
      cases hst : stepI C E A ops j o s with
      | none => rw [hst] at hpull; cases hpull
      | some s1 =>
        rw [hst] at hpull
        simp only at hpull
        refine step_wp hG hst ho hS (hd j o ho) (fun hk => ?_) (fun k hk => (hu k hk).1) (by omega) fun Y a' hgo hYu => ?_
        · rcases (hu _ hk).2 with h | h | ⟨i, _, hi, hki⟩
          · omega
          · omega
          · have : i = j := by omega
            subst this
            exact hi hjl
        · have hc1 := hgo.c
          refine ih (l1 ++ l2) (by simp at hlen ⊢; omega) (listed.setIfInBounds j true) s1 s' ?_ (by simp [hsz]) (fun i => ?_) (fun k i hk hlk hak hi => ?_) hpull (by omega) Y a' hgo.srel (fun k hk => ?_) fun Z a'' hgo' hZ => hQ Z a'' (hgo.trans hgo' (Nat.le_refl _)) hZ
          · exact List.pairwise_append.2 ⟨hp'.1, (List.pairwise_cons.1 hp'.2.1).2, fun x hx y hy => hp'.2.2 x hx y (by simp [hy])⟩
          · rw [getD_set true (by omega)]
            by_cases hij : i = j
            · subst hij
              simp only [if_true]
              constructor
              · intro hm
                rcases List.mem_append.1 hm with hm | hm
                · have := hjl1 i hm; omega
                · have := hjl2 i hm; omega
              · rintro ⟨_, hh⟩; cases hh
            · rw [if_neg hij, ← hl i]
              simp [hij]
          · rw [getD_set true (by omega)] at hlk ⊢
            by_cases hij : i = j
            · rw [if_pos hij]
            · rw [if_neg hij]
              by_cases hkj : k = j
              · subst hkj
                obtain ⟨e, he, hbn, hor⟩ := hanc k o i ho hak
                have hlt := hedge k o ho e he hbn
                have hle := h2 e he hbn
                rw [listedOf e.on (by omega)] at hle
                rcases hor with rfl | hor
                · exact hle
                · exact hdn e.on i (by omega) hle hor hi
              · rw [if_neg hkj] at hlk
                exact hdn k i hk hlk hak hi
          · rcases hYu k hk with hk | hk | hk
            · obtain ⟨g1, g2⟩ := hu k hk
              refine ⟨by omega, ?_⟩
              rcases g2 with h | h | ⟨i, hi1, hi2, hi3⟩
              · exact Or.inl h
              · exact Or.inr (Or.inl h)
              · exact Or.inr (Or.inr ⟨i, hi1, fun hm => hi2 (by simp only [List.mem_append, List.mem_cons] at hm ⊢; rcases hm with hm | hm <;> simp [hm]), hi3⟩)
            · refine ⟨by omega, Or.inr (Or.inr ⟨j, hjs, fun hm => ?_, hk⟩)⟩
              rcases List.mem_append.1 hm with hm | hm
              · have := hjl1 j hm; omega
              · have := hjl2 j hm; omega
            · exact ⟨by omega, Or.inr (Or.inl (by omega))⟩

theorem region_draw {C : Cfg} {E : Env} (hG : Good C E) (hm : C.P.follows .mixedOrders = true) {F : FuncId} {N id : Nat} {ops : Array Oper} {anc : Nat → Nat → Bool}
    (hedge : ∀ (j : Nat) (o : Oper), ops[j]? = some o → ∀ e ∈ o.after, Region.binds .any e = true → e.on < j)
    (hanc : ∀ (j : Nat) (o : Oper) (i : Nat), ops[j]? = some o → anc j i = true → ∃ e ∈ o.after, Region.binds .any e = true ∧ (e.on = i ∨ anc e.on i = true))
    (hcomm : ∀ i j, i < j → j < ops.size → anc j i = true ∨ commAt C F id ops i j = true)
    (hd : ∀ (j : Nat) (o : Oper), ops[j]? = some o → ∀ k, o.dst = some k → k < N) : RegionOk C E F N id ops true := by
  intro pre s s' h r n X B a Q hS hu hQ
  refine wpIn_region_any hm ?_
  have hrun := h
  rw [opsRun_runL ops.toList 0 _ rfl] at hrun
  let X' : Ctx := { X with w := { X.w with drawn := X.w.drawn + 1 } }
  have hX : Sim B X X' s.heap s.heap := sim_drew hS.H
  have hS' : SRel X' B N { s with c := s.c + ops.size } a := ⟨fun t => RelV.mono hX.grow.ext _ _ (hS.T t), hS.N, hX.rel⟩
  have := draw_wp hG (A := ⟨F, id, s.c, ops.size, true, pre⟩) rfl rfl (B := B) hedge hanc hcomm hd (r := r) (n := n) (Q := Q) (List.range' 0 ops.toList.length) (Array.replicate ops.size false) { s with c := s.c + ops.size } s'
    (List.pairwise_lt_range' (s := 0) (n := ops.toList.length)) (by simp) (fun i => ?_) (fun k i hk hl => ?_) hrun (Nat.le_refl _) X' a hS' (fun k hk => ?_) (fun Y a' hgo hY => hQ Y a' ⟨hX.trans hgo.sim, hgo.T, hgo.N, hgo.defers, by have := hgo.c; simp only at this; omega, hgo.u⟩ hY)
  · rw [List.length_range', Array.length_toList] at this
    exact this
  · simp only [List.mem_range'_1, Array.length_toList, Nat.zero_le, true_and, Nat.zero_add, Array.getD_eq_getD_getElem?]
    constructor
    · intro hi; refine ⟨hi, by simp [hi]⟩
    · exact fun hh => hh.1
  · exfalso
    simp only [Array.getD_eq_getD_getElem?] at hl
    simp [hk] at hl
  · have := hu k hk
    exact ⟨by simp only; omega, Or.inl this⟩
end Go.Pv
/- Runs with tokens in the place of some arguments: calls by a token and a number are answered by a table; what such a run comes to, the run itself comes to, if the table is right. Conditions: as each lemma says. -/
namespace Go.Pv

/-- A token. -/
def tok (n : Nat) : V := .vref .junk n
def isTok : V → Bool
  | .vref .junk _ => true
  | _ => false
/-- Of a function, a token, a number: the answer. -/
abbrev Ans := FuncId → Nat → Int → Option Int

def dstK (o : Oper) (s : St) : Bool := match o.dst with
  | some d => !isTok (s.tmps d)
  | none => true
def plainK (C : Cfg) (E : Env) (A : At) (ops : Array Oper) (i : Nat) (o : Oper) (s : St) : Option St :=
  if (usesT C A.F A.rid ops i o).all fun t => !isTok (s.tmps t) then
    match stepI C E A ops i o s with
    | some s1 => if dstK o s1 then some s1 else none
    | none => none
  else none
/-- Is it a call by something and a number? -/
def askOf (o : Oper) : Option (FuncId × Nat × Int) := match o.guard, o.op with
  | none, .call { callee := .value (.func f), args, .. } => match args.toList with
    | [.tmp p, .const (.int .i64 k)] => some (f, p, k)
    | _ => none
  | _, _ => none
def moveOf (o : Oper) : Option Nat := match o.guard, o.op with
  | none, .move (.tmp p) => some p
  | _, _ => none
def stepK (ans : Ans) (C : Cfg) (E : Env) (A : At) (ops : Array Oper) (i : Nat) (o : Oper) (s : St) : Option St :=
  match moveOf o with
  | some p => some { s with tmps := s.tmps.put o.dst (s.tmps p) }
  | none => match askOf o with
    | some (f, p, k) => match s.tmps p with
      | .vref .junk n => match ans f n k with
        | some r => some { s with tmps := s.tmps.put o.dst (.t (.int .i64 r)) }
        | none => none
      | _ => plainK C E A ops i o s
    | none => plainK C E A ops i o s
def opsRunK (ans : Ans) (C : Cfg) (E : Env) (A : At) (ops : Array Oper) : Nat → List Oper → St → Option St
  | _, [], s => some s
  | i, o :: os, s => match stepK ans C E A ops i o s with
    | some s => opsRunK ans C E A ops (i + 1) os s
    | none => none
def codeK (ans : Ans) (C : Cfg) (E : Env) (F : FuncId) (pre : List Nat) (m : Nat) : Code → St → Option (Ex × St)
  | .skip, s => some (.normal, s)
  | .region id ops dr, s => match opsRunK ans C E ⟨F, id, s.c, ops.size, dr, pre⟩ ops 0 ops.toList { s with c := s.c + ops.size } with
    | some s => some (.normal, s)
    | none => none
  | .seq a b, s => match codeK ans C E F pre m a s with
    | some (.normal, s) => codeK ans C E F pre m b s
    | r => r
  | .cond x a b, s => match opd s.tmps x with
    | .t (.bool true) => codeK ans C E F pre m a s
    | .t (.bool false) => codeK ans C E F pre m b s
    | _ => none
  | .block id b, s => match codeK ans C E F pre m b s with
    | some (.exit i, s) => if i = id then some (.normal, s) else some (.exit i, s)
    | r => r
  | .loop b, s => loopN (codeK ans C E F pre m b) m s
  | .exit id, s => some (.exit id, s)
  | .ret, s => some (.ret, s)
  | .label _, s => some (.normal, s)
  | .scope b, s => codeK ans C E F pre m b s
  | _, _ => none
def toks (q : Nat) : Tmps := fun t => if t < q then tok t else .undef
/-- Does a run of a function of so many parameters, by tokens, answer true? -/
def trueK (ans : Ans) (C : Cfg) (E : Env) (m : Nat) (f : FuncId) (q : Nat) : Bool :=
  match C.P.funcs[f]? with
  | some fn => match fn.body, fn.results.toList with
    | some b, [.tmp t] => Nat.ble q fn.ntmps && match codeK ans C E f [] m b ⟨toks q, Heap.emp, 0⟩ with
        | some (.normal, s) => (match s.tmps t with | .t (.bool true) => true | _ => false)
        | some (.ret, s) => (match s.tmps t with | .t (.bool true) => true | _ => false)
        | _ => false
    | _, _ => false
  | none => false

/-- States that are alike but for tokens. -/
structure Agr (X : Nat → V) (s s' : St) : Prop where
  tmps : ∀ t, (isTok (s.tmps t) = false ∧ s.tmps t = s'.tmps t) ∨ ∃ n, s.tmps t = tok n ∧ s'.tmps t = X n
  heap : s.heap = s'.heap
  c : s.c = s'.c

section
variable {ans : Ans} {C : Cfg} {E : Env} {F : FuncId} {X : Nat → V}

theorem Agr.put {s s' : St} (h : Agr X s s') {d : Option Nat} {v v' : V} (hv : d = none ∨ (isTok v = false ∧ v = v') ∨ ∃ n, v = tok n ∧ v' = X n) (hp : Heap) (c : Nat) : Agr X ⟨s.tmps.put d v, hp, c⟩ ⟨s'.tmps.put d v', hp, c⟩ := by
  refine ⟨fun t => ?_, rfl, rfl⟩
  cases d with
  | none => exact h.tmps t
  | some d =>
    simp only [Tmps.put, Tmps.upd]
    split
    · rcases hv with hv | hv
      · cases hv
      · exact hv
    · exact h.tmps t
theorem Agr.same {s s' : St} (h : Agr X s s') {t : Nat} (ht : isTok (s.tmps t) = false) : s.tmps t = s'.tmps t := by
  rcases h.tmps t with ⟨_, h⟩ | ⟨n, h, _⟩
  · exact h
  · rw [h] at ht; cases ht

theorem merge_view (h : Heap) (A : At) : h.merge A ((h.view A).freeze []) = h := by
  unfold Heap.merge
  split
  · next hd =>
    funext p k
    split
    · rfl
    · next hn =>
      show (h.view A) p k = h p k
      unfold Heap.view
      rw [if_pos hd, if_neg hn]
  · next hd =>
    show h.view A = h
    unfold Heap.view
    rw [if_neg hd]


/-- The table is right. -/
def Right (ans : Ans) (C : Cfg) (E : Env) (X : Nat → V) : Prop := ∀ f n k r, ans f n k = some r → C.md f = 0 ∧ ∃ x, X n = .t (.int .i64 x) ∧ E.callT f [.int .i64 x, .int .i64 k] = some (.int .i64 r)

theorem ask_step (hA : Right ans C E X) {o : Oper} {f : FuncId} {p n : Nat} {k r : Int} (ho : askOf o = some (f, p, k)) (hr : ans f n k = some r) {A : At} {ops : Array Oper} {i : Nat} {s : St} (hs : s.tmps p = X n) :
    stepI C E A ops i o s = some { s with tmps := s.tmps.put o.dst (.t (.int .i64 r)) } := by
  obtain ⟨hmd, x, hx, hE⟩ := hA f n k r hr
  unfold askOf at ho
  split at ho
  · next f' args ats hg hop =>
    split at ho
    · next p' k' hargs =>
      simp only [Option.some.injEq, Prod.mk.injEq] at ho
      obtain ⟨rfl, rfl, rfl⟩ := ho
      have hw : wants ops o s.tmps = some true := by unfold wants; rw [hg]
      have hcls : cls C o.op = 3 := by
        rw [hop]
        simp only [cls]
        rw [if_pos (Or.inl (by omega))]
      unfold stepI
      rw [hw]
      simp only
      unfold exec
      simp only [hcls]
      rw [hop]
      simp only [target, opd, hargs, List.map_cons, List.map_nil, List.nil_append, hs, hx]
      have hv : valueCall C E (s.heap.view A) f' [.t (.int .i64 x), ofValue (.int .i64 k')] = some (.t (.int .i64 r), []) := by
        unfold valueCall
        have : snapWith (snap (s.heap.view A) deep) [.t (.int .i64 x), ofValue (.int .i64 k')] = some [.int .i64 x, .int .i64 k'] := rfl
        rw [this]
        simp only [hE]
        rw [if_pos hmd]
        rfl
      rw [hv]
      simp only [merge_view]
    · cases ho
  · cases ho
theorem move_step {o : Oper} {p : Nat} (ho : moveOf o = some p) {A : At} {ops : Array Oper} {i : Nat} {s : St} : stepI C E A ops i o s = some { s with tmps := s.tmps.put o.dst (s.tmps p) } := by
  unfold moveOf at ho
  split at ho
  · next p' hg hop =>
    simp only [Option.some.injEq] at ho; subst ho
    have hw : wants ops o s.tmps = some true := by unfold wants; rw [hg]
    have hcls : cls C o.op = 0 := by rw [hop]; rfl
    unfold stepI
    rw [hw]
    simp only
    unfold exec
    simp only [hcls]
    rw [hop]
    rfl
  · cases ho

theorem plainK_sim {A : At} {ops : Array Oper} {i : Nat} {o : Oper} {s s' s1 : St} (ha : Agr X s s') (h : plainK C E A ops i o s = some s1) : ∃ s1', stepI C E A ops i o s' = some s1' ∧ Agr X s1 s1' := by
  unfold plainK at h
  split at h
  · next hall =>
    have hu : ∀ t ∈ usesT C A.F A.rid ops i o, s.tmps t = s'.tmps t := fun t ht => ha.same (by simpa using List.all_eq_true.1 hall t ht)
    have e1 := stepI_eff C E A ops i o s
    rw [eff_congr hu, ha.heap, ha.c] at e1
    have e2 := stepI_eff C E A ops i o s'
    cases he : eff C E A ops i o s'.tmps s'.heap s'.c with
    | none =>
      rw [he] at e1
      rw [e1] at h
      cases h
    | some r =>
      obtain ⟨v, hp, c⟩ := r
      rw [he] at e1 e2
      simp only [Option.map_some] at e1 e2
      rw [e1] at h
      simp only at h
      split at h
      · next hd =>
        simp only [Option.some.injEq] at h; subst h
        refine ⟨_, e2, ha.put ?_ hp c⟩
        cases ho : o.dst with
        | none => exact Or.inl rfl
        | some d =>
          unfold dstK at hd
          rw [ho] at hd
          simp only [Tmps.put, Tmps.upd, if_true, Bool.not_eq_true'] at hd
          exact Or.inr (Or.inl ⟨hd, rfl⟩)
      · cases h
  · cases h
theorem stepK_sim (hA : Right ans C E X) {A : At} {ops : Array Oper} {i : Nat} {o : Oper} {s s' s1 : St} (ha : Agr X s s') (h : stepK ans C E A ops i o s = some s1) : ∃ s1', stepI C E A ops i o s' = some s1' ∧ Agr X s1 s1' := by
  have eta : ∀ v, (⟨s'.tmps.put o.dst v, s.heap, s.c⟩ : St) = { s' with tmps := s'.tmps.put o.dst v } := fun v => by rw [ha.heap, ha.c]
  unfold stepK at h
  split at h
  · next p hm =>
    simp only [Option.some.injEq] at h; subst h
    refine ⟨_, move_step hm, ?_⟩
    rw [← eta]
    exact ha.put (Or.inr (ha.tmps p)) s.heap s.c
  · split at h
    · next f p k hask =>
      split at h
      · next n hp =>
        split at h
        · next r hr =>
          simp only [Option.some.injEq] at h; subst h
          rcases ha.tmps p with hh | ⟨m, h1, h2⟩
          · rw [hp] at hh
            cases hh.1
          · rw [hp] at h1
            simp only [tok, V.vref.injEq, true_and] at h1
            subst h1
            refine ⟨_, ask_step hA hask hr h2, ?_⟩
            rw [← eta]
            exact ha.put (Or.inr (Or.inl ⟨rfl, rfl⟩)) s.heap s.c
        · cases h
      · exact plainK_sim ha h
    · exact plainK_sim ha h

theorem opsRunK_sim (hA : Right ans C E X) {A : At} {ops : Array Oper} : ∀ (os : List Oper) (i : Nat) (s s' s1 : St), Agr X s s' → opsRunK ans C E A ops i os s = some s1 → ∃ s1', opsRun C E A ops i os s' = some s1' ∧ Agr X s1 s1'
  | [], i, s, s', s1, ha, h => by
    simp only [opsRunK, Option.some.injEq] at h; subst h
    exact ⟨s', rfl, ha⟩
  | o :: os, i, s, s', s1, ha, h => by
    simp only [opsRunK] at h
    cases hs : stepK ans C E A ops i o s with
    | none => rw [hs] at h; cases h
    | some s2 =>
      rw [hs] at h
      obtain ⟨s2', h1, h2⟩ := stepK_sim hA ha hs
      obtain ⟨s1', h3, h4⟩ := opsRunK_sim hA os (i + 1) s2 s2' s1 h2 h
      exact ⟨s1', by simp only [opsRun, h1, h3], h4⟩

theorem loopN_sim {b b' : St → Option (Ex × St)} (hb : ∀ s s' ex s1, Agr X s s' → b s = some (ex, s1) → ∃ s1', b' s' = some (ex, s1') ∧ Agr X s1 s1') : ∀ (n : Nat) (s s' : St) (ex : Ex) (s1 : St), Agr X s s' → loopN b n s = some (ex, s1) → ∃ s1', loopN b' n s' = some (ex, s1') ∧ Agr X s1 s1'
  | 0, s, s', ex, s1, _, h => by cases h
  | n + 1, s, s', ex, s1, ha, h => by
    simp only [loopN] at h ⊢
    cases hs : b s with
    | none => rw [hs] at h; cases h
    | some r =>
      obtain ⟨e, s2⟩ := r
      obtain ⟨s2', h1, h2⟩ := hb s s' e s2 ha hs
      rw [hs] at h
      rw [h1]
      cases e with
      | normal => exact loopN_sim hb n s2 s2' ex s1 h2 h
      | ret =>
        simp only [Option.some.injEq, Prod.mk.injEq] at h ⊢
        obtain ⟨rfl, rfl⟩ := h
        exact ⟨s2', ⟨rfl, rfl⟩, h2⟩
      | exit k =>
        simp only [Option.some.injEq, Prod.mk.injEq] at h ⊢
        obtain ⟨rfl, rfl⟩ := h
        exact ⟨s2', ⟨rfl, rfl⟩, h2⟩


theorem opd_same {s s' : St} (ha : Agr X s s') {x : Operand} (hx : isTok (opd s.tmps x) = false) : opd s.tmps x = opd s'.tmps x := by
  cases x with
  | tmp t => exact ha.same hx
  | _ => rfl

theorem codeK_sim (hA : Right ans C E X) {pre : List Nat} {m : Nat} : ∀ (b : Code) (s s' : St) (ex : Ex) (s1 : St), Agr X s s' → codeK ans C E F pre m b s = some (ex, s1) →
    ∃ s1', codeT C E F pre m b s' = some (ex, s1') ∧ Agr X s1 s1'
  | .skip, s, s', ex, s1, ha, h => by
    simp only [codeK, Option.some.injEq, Prod.mk.injEq] at h
    obtain ⟨rfl, rfl⟩ := h
    exact ⟨s', rfl, ha⟩
  | .region id ops dr, s, s', ex, s1, ha, h => by
    simp only [codeK] at h
    cases ho : opsRunK ans C E ⟨F, id, s.c, ops.size, dr, pre⟩ ops 0 ops.toList { s with c := s.c + ops.size } with
    | none => rw [ho] at h; cases h
    | some s2 =>
      rw [ho] at h
      simp only [Option.some.injEq, Prod.mk.injEq] at h
      obtain ⟨rfl, rfl⟩ := h
      have hb : Agr X { s with c := s.c + ops.size } { s' with c := s'.c + ops.size } := ⟨ha.tmps, ha.heap, by simp only [ha.c]⟩
      obtain ⟨s1', h1, h2⟩ := opsRunK_sim hA (A := ⟨F, id, s.c, ops.size, dr, pre⟩) ops.toList 0 _ _ _ hb ho
      refine ⟨s1', ?_, h2⟩
      simp only [codeT, code]
      rw [ha.c] at h1
      rw [h1]
  | .seq a b, s, s', ex, s1, ha, h => by
    simp only [codeK] at h
    cases h1 : codeK ans C E F pre m a s with
    | none => rw [h1] at h; cases h
    | some r =>
      obtain ⟨e, s2⟩ := r
      obtain ⟨s2', g1, g2⟩ := codeK_sim hA a s s' e s2 ha h1
      rw [h1] at h
      simp only [codeT, g1]
      cases e with
      | normal => exact codeK_sim hA b s2 s2' ex s1 g2 h
      | ret =>
        simp only [Option.some.injEq, Prod.mk.injEq] at h ⊢
        obtain ⟨rfl, rfl⟩ := h
        exact ⟨s2', ⟨rfl, rfl⟩, g2⟩
      | exit k =>
        simp only [Option.some.injEq, Prod.mk.injEq] at h ⊢
        obtain ⟨rfl, rfl⟩ := h
        exact ⟨s2', ⟨rfl, rfl⟩, g2⟩
  | .cond x a b, s, s', ex, s1, ha, h => by
    simp only [codeK] at h
    simp only [codeT, code]
    split at h
    · next hx =>
      rw [← opd_same ha (by rw [hx]; rfl), hx]
      exact codeK_sim hA a s s' ex s1 ha h
    · next hx =>
      rw [← opd_same ha (by rw [hx]; rfl), hx]
      exact codeK_sim hA b s s' ex s1 ha h
    · cases h
  | .block id b, s, s', ex, s1, ha, h => by
    simp only [codeK] at h
    simp only [codeT, code]
    cases h1 : codeK ans C E F pre m b s with
    | none => rw [h1] at h; cases h
    | some r =>
      obtain ⟨e, s2⟩ := r
      obtain ⟨s2', g1, g2⟩ := codeK_sim hA b s s' e s2 ha h1
      rw [h1] at h
      rw [g1]
      cases e with
      | normal =>
        simp only [Option.some.injEq, Prod.mk.injEq] at h ⊢
        obtain ⟨rfl, rfl⟩ := h
        exact ⟨s2', ⟨rfl, rfl⟩, g2⟩
      | ret =>
        simp only [Option.some.injEq, Prod.mk.injEq] at h ⊢
        obtain ⟨rfl, rfl⟩ := h
        exact ⟨s2', ⟨rfl, rfl⟩, g2⟩
      | exit k =>
        simp only at h ⊢
        split at h
        · next hk =>
          simp only [Option.some.injEq, Prod.mk.injEq] at h
          obtain ⟨rfl, rfl⟩ := h
          rw [if_pos hk]
          exact ⟨s2', rfl, g2⟩
        · next hk =>
          simp only [Option.some.injEq, Prod.mk.injEq] at h
          obtain ⟨rfl, rfl⟩ := h
          rw [if_neg hk]
          exact ⟨s2', rfl, g2⟩
  | .loop b, s, s', ex, s1, ha, h => by
    simp only [codeK] at h
    simp only [codeT, code]
    exact loopN_sim (fun s s' ex s1 ha h => codeK_sim hA b s s' ex s1 ha h) m s s' ex s1 ha h
  | .exit id, s, s', ex, s1, ha, h => by
    simp only [codeK, Option.some.injEq, Prod.mk.injEq] at h
    obtain ⟨rfl, rfl⟩ := h
    exact ⟨s', rfl, ha⟩
  | .ret, s, s', ex, s1, ha, h => by
    simp only [codeK, Option.some.injEq, Prod.mk.injEq] at h
    obtain ⟨rfl, rfl⟩ := h
    exact ⟨s', rfl, ha⟩
  | .label _, s, s', ex, s1, ha, h => by
    simp only [codeK, Option.some.injEq, Prod.mk.injEq] at h
    obtain ⟨rfl, rfl⟩ := h
    exact ⟨s', rfl, ha⟩
  | .scope b, s, s', ex, s1, ha, h => by
    simp only [codeK] at h
    simp only [codeT, code]
    exact codeK_sim hA b s s' ex s1 ha h
  | .rangeFunc .., s, s', ex, s1, ha, h => by simp [codeK] at h
  | .goto _, s, s', ex, s1, ha, h => by simp [codeK] at h
  | .refuse _, s, s', ex, s1, ha, h => by simp [codeK] at h


theorem trueK_run (hA : Right ans C E X) {m q : Nat} {vs : List V} (hvs : vs.length = q) (hX : ∀ t, t < q → Tmps.ofList vs t = X t) (h : trueK ans C E m F q = true) : ∃ hp c, runF C E m F vs [] Heap.emp 0 = some (.t (.bool true), hp, c) := by
  unfold trueK at h
  split at h
  · next fn hfn =>
    split at h
    · next b t hb hres =>
      simp only [Bool.and_eq_true, Nat.ble_eq] at h
      obtain ⟨hq, h⟩ := h
      have ha : Agr X ⟨toks q, Heap.emp, 0⟩ ⟨Tmps.ofList vs, Heap.emp, 0⟩ := ⟨fun t => by
        simp only [toks]
        split
        · next ht => exact Or.inr ⟨t, rfl, hX t ht⟩
        · next ht =>
          refine Or.inl ⟨rfl, ?_⟩
          simp only [Tmps.ofList]
          rw [List.getElem?_eq_none (by omega)]
          rfl, rfl, rfl⟩
      have fin : ∀ s1 : St, (match s1.tmps t with | .t (.bool true) => true | _ => false) = true → ∀ s1' : St, Agr X s1 s1' → resV C.P fn s1' = some (.t (.bool true)) := by
        intro s1 h1 s1' ha1
        split at h1
        · next ht =>
          unfold resV
          rw [hres]
          simp only [resAll, resOne]
          rw [← ha1.same (by rw [ht]; rfl), ht]
        · cases h1
      unfold runF
      rw [hfn]
      simp only [hb]
      rw [if_pos (by omega)]
      split at h
      · next s1 hc =>
        obtain ⟨s1', g1, g2⟩ := codeK_sim hA b _ _ _ _ ha hc
        rw [g1]
        simp only [fin s1 h s1' g2, Option.map_some]
        exact ⟨_, _, rfl⟩
      · next s1 hc =>
        obtain ⟨s1', g1, g2⟩ := codeK_sim hA b _ _ _ _ ha hc
        rw [g1]
        simp only [fin s1 h s1' g2, Option.map_some]
        exact ⟨_, _, rfl⟩
      · cases h
    · cases h
  · cases h
end
end Go.Pv
/- Calls whose answers are known. Conditions: as each lemma says. -/
namespace Go.Pv

mutual
/-- Are trees alike? Of strings and functions: never said. -/
def T.beq : T → T → Bool
  | .bool a, .bool b => a == b
  | .int k a, .int k' b => decide (k = k') && decide (a = b)
  | .vec a, .vec b => T.beqs a b
  | .agg a, .agg b => T.beqs a b
  | .tup a, .tup b => T.beqs a b
  | .nilptr, .nilptr => true
  | .nilfn, .nilfn => true
  | .nilif, .nilif => true
  | _, _ => false
def T.beqs : List T → List T → Bool
  | [], [] => true
  | a :: as, b :: bs => T.beq a b && T.beqs as bs
  | _, _ => false
end
mutual
theorem T.beq_eq : ∀ (a b : T), T.beq a b = true → a = b
  | .bool a, b, h => by cases b <;> simp_all [T.beq]
  | .int k a, b, h => by cases b <;> simp_all [T.beq]
  | .str _, b, h => by cases b <;> simp_all [T.beq]
  | .vec a, b, h => by
    cases b <;> simp only [T.beq] at h <;> first | cases h | skip
    rw [T.beqs_eq _ _ h]
  | .agg a, b, h => by
    cases b <;> simp only [T.beq] at h <;> first | cases h | skip
    rw [T.beqs_eq _ _ h]
  | .tup a, b, h => by
    cases b <;> simp only [T.beq] at h <;> first | cases h | skip
    rw [T.beqs_eq _ _ h]
  | .fn _ _, b, h => by cases b <;> simp_all [T.beq]
  | .iface _ _, b, h => by cases b <;> simp_all [T.beq]
  | .nilptr, b, h => by cases b <;> simp_all [T.beq]
  | .nilfn, b, h => by cases b <;> simp_all [T.beq]
  | .nilif, b, h => by cases b <;> simp_all [T.beq]
theorem T.beqs_eq : ∀ (a b : List T), T.beqs a b = true → a = b
  | [], b, h => by cases b <;> simp_all [T.beqs]
  | x :: xs, b, h => by
    cases b with
    | nil => simp [T.beqs] at h
    | cons y ys =>
      simp only [T.beqs, Bool.and_eq_true] at h
      rw [T.beq_eq _ _ h.1, T.beqs_eq _ _ h.2]
end

abbrev Memo := List (FuncId × List T × T)
def memoEnv (tbl : Memo) (E : Env) : Env :=
  { E with callT := fun f ts => match tbl.find? (fun e => Nat.beq e.1 f && T.beqs e.2.1 ts) with
    | some e => some e.2.2
    | none => E.callT f ts }
theorem memo_eq {tbl : Memo} {E : Env} (h : ∀ e ∈ tbl, E.callT e.1 e.2.1 = some e.2.2) : memoEnv tbl E = E := by
  unfold memoEnv
  cases E with
  | mk ct ch =>
    simp only [Env.mk.injEq, and_true]
    funext f ts
    split
    · next e he =>
      have h1 := List.find?_some he
      simp only [Bool.and_eq_true] at h1
      have h2 : e.1 = f := Nat.eq_of_beq_eq_true h1.1
      rw [← h2, ← T.beqs_eq _ _ h1.2]
      exact (h e (List.mem_of_find?_eq_some he)).symm
    · rfl
end Go.Pv
/- What is looked up once, of each function: that its regions are fit. Conditions: as each lemma says. -/
namespace Go.Pv

def maskOf (T : List Nat) (o : Oper) : Nat := o.after.toList.foldl (fun s e => if Region.binds .any e then s ||| 2 ^ e.on ||| T.getD e.on 0 else s) 0
def masks : List Oper → List Nat → List Nat
  | [], T => T
  | o :: os, T => masks os (T ++ [maskOf T o])
def ancOf (n : Nat) (T : List Nat) (j i : Nat) : Bool := Nat.blt i n && (T.getD j 0).testBit i
def dstOk (N : Nat) (ops : Array Oper) : Bool := ops.toList.all fun o => match o.dst with
  | some k => Nat.blt k N
  | none => true
def stepChk (C : Cfg) (F id : Nat) (ops : Array Oper) (T : List Nat) (j : Nat) : Bool := match ops[j]? with
  | some o => o.after.toList.all (fun e => !Region.binds .any e || Nat.blt e.on j) &&
    (List.range ops.size).all fun i =>
      if ancOf ops.size T j i then o.after.toList.any fun e => Region.binds .any e && (e.on == i || ancOf ops.size T e.on i)
      else !Nat.blt i j || commAt C F id ops i j
  | none => true
def drawChk (C : Cfg) (F id : Nat) (ops : Array Oper) : Bool :=
  let T := masks ops.toList []
  (List.range ops.size).all fun j => stepChk C F id ops T j
def codeChk (C : Cfg) (F N : Nat) : Code → Bool
  | .region id ops dr => dstOk N ops && (!dr || drawChk C F id ops)
  | .seq a b => codeChk C F N a && codeChk C F N b
  | .cond _ a b => codeChk C F N a && codeChk C F N b
  | .block _ b => codeChk C F N b
  | .loop b => codeChk C F N b
  | .scope b => codeChk C F N b
  | .rangeFunc _ _ a b => codeChk C F N a && codeChk C F N b
  | _ => true
def funcChk (C : Cfg) (f : Nat) : Bool := match C.P.funcs[f]? with
  | some fn => match fn.body with
    | some b => !Nat.ble (C.md f) 3 || (!(fn.name == "runtime.NumGoroutine") && codeChk C f fn.ntmps b)
    | none => true
  | none => true

theorem dstOk_spec {N : Nat} {ops : Array Oper} (h : dstOk N ops = true) : ∀ o ∈ ops.toList, ∀ k, o.dst = some k → k < N := by
  intro o ho k hk
  have := List.all_eq_true.1 h o ho
  rw [hk] at this
  simpa using this
theorem codeChk_ok {C : Cfg} {E : Env} (hG : Good C E) (hm : C.P.follows .mixedOrders = true) {F N : Nat} : ∀ (c : Code), codeChk C F N c = true → CodeOk (RegionOk C E F N) c
  | .region id ops dr, h => by
    simp only [codeChk, Bool.and_eq_true] at h
    obtain ⟨hd, h⟩ := h
    have hd' := dstOk_spec hd
    cases dr with
    | false => exact region_text hG hd'
    | true =>
      simp only [Bool.not_true, Bool.false_or] at h
      have step : ∀ j o, ops[j]? = some o → stepChk C F id ops (masks ops.toList []) j = true := fun j o ho =>
        List.all_eq_true.1 h j (List.mem_range.2 (Array.getElem?_eq_some_iff.1 ho).1)
      refine region_draw hG hm (anc := ancOf ops.size (masks ops.toList [])) (fun j o ho e he hb => ?_) (fun j o i ho ha => ?_) (fun i j hij hj => ?_) (fun j o ho k hk => hd' o (by rw [← Array.getElem?_toList] at ho; exact List.mem_of_getElem? ho) k hk)
      · have := step j o ho
        unfold stepChk at this
        rw [ho] at this
        simp only [Bool.and_eq_true] at this
        have := List.all_eq_true.1 this.1 e (by simpa using he)
        rw [hb] at this
        simpa using this
      · have hi : i < ops.size := by
          unfold ancOf at ha
          simp only [Bool.and_eq_true] at ha
          simpa using ha.1
        have := step j o ho
        unfold stepChk at this
        rw [ho] at this
        simp only [Bool.and_eq_true] at this
        have := List.all_eq_true.1 this.2 i (List.mem_range.2 hi)
        rw [if_pos ha] at this
        obtain ⟨e, he, hh⟩ := List.any_eq_true.1 this
        simp only [Bool.and_eq_true, Bool.or_eq_true, beq_iff_eq] at hh
        exact ⟨e, by simpa using he, hh.1, hh.2⟩
      · obtain ⟨o, ho⟩ : ∃ o, ops[j]? = some o := ⟨_, Array.getElem?_eq_getElem hj⟩
        have := step j o ho
        unfold stepChk at this
        rw [ho] at this
        simp only [Bool.and_eq_true] at this
        have := List.all_eq_true.1 this.2 i (List.mem_range.2 (by omega))
        split at this
        · next ha => exact Or.inl ha
        · simp only [Bool.or_eq_true, Bool.not_eq_true'] at this
          rcases this with hh | hh
          · have : Nat.blt i j = true := by simpa using hij
            rw [this] at hh; cases hh
          · exact Or.inr hh
  | .seq a b, h => by
    simp only [codeChk, Bool.and_eq_true] at h
    exact ⟨codeChk_ok hG hm a h.1, codeChk_ok hG hm b h.2⟩
  | .cond _ a b, h => by
    simp only [codeChk, Bool.and_eq_true] at h
    exact ⟨codeChk_ok hG hm a h.1, codeChk_ok hG hm b h.2⟩
  | .block _ b, h => codeChk_ok hG hm b (by simpa only [codeChk] using h)
  | .loop b, h => codeChk_ok hG hm b (by simpa only [codeChk] using h)
  | .rangeFunc _ _ a b, h => by
    simp only [codeChk, Bool.and_eq_true] at h
    exact ⟨codeChk_ok hG hm a h.1, codeChk_ok hG hm b h.2⟩
  | .skip, _ => trivial
  | .exit _, _ => trivial
  | .scope b, h => codeChk_ok hG hm b (by simpa only [codeChk] using h)
  | .label _, _ => trivial
  | .goto _, _ => trivial
  | .ret, _ => trivial
  | .refuse _, _ => trivial

theorem funcs_ok {C : Cfg} (hm : C.P.follows .mixedOrders = true) (h : ∀ f, funcChk C f = true) : ∀ E, Good C E → FuncsOk C E := by
  intro E hG f fn b hf hb hmd
  have := h f
  unfold funcChk at this
  rw [hf] at this
  simp only [hb, Bool.or_eq_true, Bool.not_eq_true', Bool.and_eq_true] at this
  rcases this with hh | ⟨h1, h2⟩
  · have : Nat.ble (C.md f) 3 = true := by simpa using hmd
    rw [this] at hh; cases hh
  · exact ⟨h1, codeChk_ok hG hm b h2⟩
end Go.Pv
/- slices.Clone, as the library has it: what the call leaves. Conditions: as each lemma says. -/
namespace Go.Pv
open Go.RowKit

/-- Which numbers a region's steps give, and what they are; none is guarded. -/
def Steps (ops : Array Oper) (l : List (Option Nat × Op)) : Prop := (ops.toList.map fun o => (o.dst, o.op)) = l ∧ (ops.toList.all fun o => o.guard.isNone) = true
theorem Steps.get {ops : Array Oper} {l : List (Option Nat × Op)} (h : Steps ops l) {i : Nat} {d : Option Nat} {op : Op} (hi : l[i]? = some (d, op)) : ∃ o, ops[i]? = some o ∧ o.dst = d ∧ o.op = op ∧ o.guard = none := by
  obtain ⟨h1, h2⟩ := h
  rw [← h1, List.getElem?_map, Array.getElem?_toList] at hi
  cases ho : ops[i]? with
  | none => rw [ho] at hi; cases hi
  | some o =>
    rw [ho] at hi
    simp only [Option.map_some, Option.some.injEq, Prod.mk.injEq] at hi
    have := List.all_eq_true.1 h2 o (by rw [← Array.getElem?_toList] at ho; exact List.mem_of_getElem? ho)
    exact ⟨o, rfl, hi.1, hi.2, by simpa using this⟩
theorem Steps.size {ops : Array Oper} {l : List (Option Nat × Op)} (h : Steps ops l) : ops.size = l.length := by
  rw [← h.1, List.length_map, Array.length_toList]
def noSlice : Operand := .const (.slice none 0 0)
/-- A nil slice is handed back as it is; any other is appended to an empty one. -/
inductive Clones (t : TypeId) : Code → Prop
  | mk {i0 i1 i2 i3 : Nat} {s0 s1 s2 s3 : Array Oper} (h0 : Steps s0 [(some 2, .assign noSlice)]) (h1 : Steps s1 [(some 3, .move (.tmp 0)), (some 4, .binOp .eql t (.tmp 3) noSlice t)]) (h2 : Steps s2 [(some 2, .assign noSlice)])
      (h3 : Steps s3 [(some 5, .buildSlice t 0 #[]), (some 6, .move (.tmp 0)), (some 7, .call { callee := .builtin .append, args := #[.tmp 5, .tmp 6], argTypes := #[t, t] }), (some 2, .assign (.tmp 7))]) :
      Clones t (.seq (.region i0 s0 false) (.seq (.seq (.region i1 s1 false) (.cond (.tmp 4) (.seq (.region i2 s2 false) .ret) .skip)) (.seq (.region i3 s3 false) .ret)))

theorem op_does {r : Option Nat} {n : Nat} {P : Program} {ops : Array Oper} {Q : Exit → Act → World → Prop} {i : Nat} {o : Oper} {K : Act → World → Prop} {a : Act} {w : World} {R : Value → World → Prop}
    (ho : ops[i]? = some o) (hg : o.guard = none) (hd : Does P o a w R) (hK : ∀ v w', R v w' → K (a.put o.dst v) w') : wpOpIn (FR r) n P ops Q i K a w := by
  unfold wpOpIn
  rw [ho]
  simp only
  rw [if_pos (by unfold Region.wanted; rw [hg])]
  exact hd r n K Q hK

theorem put_get {a : Act} {dst : Option Nat} {d : Nat} {v : Value} (hd : dst = some d) (h : d < a.tmps.size) : (a.put dst v).tmps.getD d undef = v := by
  subst hd
  simp [Act.put, h]

theorem slice_nil {P : Program} {t e : TypeId} (ht : P.underlying t = some (.slice e)) (xo yo : Operand) (a : Option Addr) (n cp : Nat) (w : World) :
    ((do eqGuard .eql t xo yo (.slice a n cp) (.slice none 0 0); binOp .eql t (.slice a n cp) (.slice none 0 0)) : Sem Value).run P w = .ok (.bool a.isNone) w := by
  simp only [run_bind, guard_other w (a := .slice a n cp) (by simp) (by simp)]
  have hE : ∀ d, (Op.equalIn (d + 1) t (.slice a n cp) (.slice none 0 0)).run P w = .ok a.isNone w := by
    intro d
    cases a <;> simp [Op.equalIn, run_underlying ht]
  simp only [binOp]
  simp [Op.equal, Op.maxDepth, hE 9999]

/-- A slice without an address has no elements. -/
theorem elems_nil {X : Ctx} {h : Heap} {x : V} {n cp : Nat} {l : List V} (hx : RelV X x (.slice none n cp)) (he : elems h x = some l) : l = [] := by
  unfold elems at he
  split at he
  · simp only [Option.some.injEq] at he; exact he.symm
  · next p g o k s =>
    simp only [RelV] at hx
    obtain ⟨_, a, cap, hv, _, h0, _⟩ := hx
    simp only [Value.slice.injEq] at hv
    obtain ⟨rfl, rfl, rfl⟩ := hv
    have hn : n = 0 := by
      rcases Nat.eq_zero_or_pos n with h | h
      · exact h
      · obtain ⟨ad, hh⟩ := h0 h; cases hh
    subst hn
    split at he
    · split at he
      · simp only [List.take_zero, Option.some.injEq] at he; exact he.symm
      · cases he
    · cases he
  · next es =>
    simp only [RelV, RelT] at hx
    obtain ⟨a, cap, hv, _, h0⟩ := hx
    simp only [Value.slice.injEq] at hv
    obtain ⟨rfl, _⟩ := hv
    rcases h0 with rfl | ⟨_, _, _, hh, _⟩
    · simp at he; exact he
    · cases hh
  · next es =>
    simp only [RelV] at hx
    obtain ⟨a, hv, h0⟩ := hx
    simp only [Value.slice.injEq] at hv
    obtain ⟨rfl, _⟩ := hv
    rcases h0 with rfl | ⟨_, _, _, hh, _⟩
    · simp at he; exact he
    · cases hh
  · cases he

theorem elems_slice {X : Ctx} {h : Heap} {x : V} {y : Value} {l : List V} (hx : RelV X x y) (he : elems h x = some l) : ∃ a n cp, y = .slice a n cp := by
  unfold elems at he
  split at he
  · simp only [RelV] at hx
    obtain ⟨a, rfl⟩ := hx
    exact ⟨_, _, _, rfl⟩
  · simp only [RelV] at hx
    obtain ⟨_, a, cap, rfl, _⟩ := hx
    exact ⟨_, _, _, rfl⟩
  · simp only [RelV, RelT] at hx
    obtain ⟨a, cap, rfl, _⟩ := hx
    exact ⟨_, _, _, rfl⟩
  · simp only [RelV] at hx
    obtain ⟨a, rfl, _⟩ := hx
    exact ⟨_, _, _, rfl⟩
  · cases he

theorem clone_parts {P : Program} {h : Heap} {p : List Nat} {c : Nat} {t : TypeId} {x v : V} {h' : Heap} {c' : Nat} (hx : ∀ s, x ≠ .t (.str s)) (hv : appendV P h p c t .cap0 x t = some (v, h', c')) :
    ∃ e new z, elemT P t = some e ∧ elems h x = some new ∧ zeroV P e = some z ∧ z.ncells = sz P e ∧ z.still = true ∧ 0 < sz P e ∧ v = .own p c 0 new.length (sz P e) ∧ h' = h.upd p c (some ⟨false, .row new⟩) ∧ c' = c + 1 := by
  unfold appendV at hv
  split at hv
  · cases hv
  · next e he =>
    split at hv
    · next hc1 =>
      obtain ⟨hby, hp, hzany⟩ := hc1
      obtain ⟨z, hz, hzc⟩ : ∃ z, zeroV P e = some z ∧ (z.ncells == sz P e && z.still) = true := by
        cases hz : zeroV P e with
        | none => rw [hz] at hzany; cases hzany
        | some z => rw [hz] at hzany; exact ⟨z, rfl, hzany⟩
      simp only [Bool.and_eq_true, beq_iff_eq] at hzc
      simp only at hv
      split at hv
      · cases hv
      · next new hadd =>
        split at hadd
        · split at hv
          · split at hv
            · simp only [Option.some.injEq, Prod.mk.injEq] at hv
              obtain ⟨rfl, rfl, rfl⟩ := hv
              exact ⟨e, new, z, he, hadd, hz, hzc.1, hzc.2, hp, rfl, rfl, rfl⟩
            · cases hv
          · cases hv
        · cases hadd
    · cases hv

theorem clone_calls {P : Program} {f : FuncId} {fn : Func} {t : TypeId} {b : Code} (hfn : P.funcs[f]? = some fn) (hname : (fn.name == "runtime.NumGoroutine") = false) (hbody : fn.body = some b) (hb : Clones t b) (hres : fn.results = #[.tmp 2]) (hn : fn.ntmps = 8)
    {h : Heap} {p : List Nat} {c : Nat} {x v : V} {h' : Heap} {c' : Nat} (hxs : ∀ s, x ≠ .t (.str s)) (hv : appendV P h p c t .cap0 x t = some (v, h', c')) :
    Enters P f ∧ ∀ X B (args : Array Value), HRel X B h → RelVs X [x] args.toList → (∀ k, X.u k → k < c) → c ≤ c' ∧ Calls P f args X.w (EndH X B h h' c c' v) := by
  refine ⟨⟨fn, hfn, by rw [hbody]; rfl, hname⟩, fun X B args hr ha hu => ?_⟩
  have hfresh : ¬ X.u c := fun hh => Nat.lt_irrefl _ (hu c hh)
  obtain ⟨e, new, z, he, hel, hz, hzn, hzs, hsz, hvv, hhh, hcc⟩ := clone_parts hxs hv
  simp only [RelVs] at ha
  obtain ⟨xv, vs', hargs, hx, rfl⟩ := ha
  have hargs' : args = #[xv] := Array.toList_inj.1 (by simpa using hargs)
  subst hargs'
  obtain ⟨ad, n, cp, rfl⟩ := elems_slice hx hel
  have ht := elemT_spec he
  refine ⟨by omega, (callsIn_wide (n := 0)).1 (callsIn_of_wp (F := FR none) hfn hbody trivial ?_)⟩
  rw [hn]
  show b.wpIn (FR none) 0 P _ { tmps := #[Value.slice ad n cp, undef, undef, undef, undef, undef, undef, undef], defers := [] } X.w
  have move : ∀ (o : Oper) (y : Operand) (a : Act) (w : World), (o.op = .move y ∨ o.op = .assign y) → Does P o a w (fun v w' => v = a.eval y ∧ w' = w) := by
    intro o y a w ho
    rcases ho with ho | ho
    · exact does_value (by rw [ho]; intro c hc; cases hc) (by simp only [execOp, ho]; rfl) ⟨rfl, rfl⟩
    · exact does_value (by rw [ho]; intro c hc; cases hc) (by simp only [execOp, ho]; rfl) ⟨rfl, rfl⟩
  have res : ∀ (a : Act) (w : World) (x : Value), a.tmps.getD 2 undef = x → (results fn a.tmps).run P w = .ok x w := by
    intro a w x hx2
    have hm : (#[ResultVar.tmp 2].mapM (fun r => match r with
      | .tmp t => pure (a.tmps.getD t undef)
      | .cell c t => do loadVar t (← asAddr (a.tmps.getD c undef)) : ResultVar → Sem Value)).run P w = .ok #[x] w := by
      rw [Array.mapM_eq_mapM_toList]
      show ((_ >>= fun (y : List Value) => pure y.toArray : Sem (Array Value))).run P w = _
      rw [run_bind]
      simp only [List.mapM_cons, List.mapM_nil, run_bind, run_pure, hx2]
    have hg : ∀ g : ResultVar → Sem Value, (∀ x, g x = match x with
      | .tmp t => pure (a.tmps.getD t undef)
      | .cell c t => do loadVar t (← asAddr (a.tmps.getD c undef))) → (fn.results.mapM g).run P w = .ok #[x] w := by
      intro g hg
      rw [funext hg, hres]
      exact hm
    unfold results
    rw [run_bind, hg _ (fun x => by cases x <;> rfl)]
    rfl
  cases hb with
  | @mk i0 i1 i2 i3 s0 s1 s2 s3 g0 g1 g2 g3 =>
    refine wpIn_seq (wpIn_region ?_)
    rw [g0.size]
    show wpOpsIn _ _ _ _ _ [0] _ _
    rw [wpOpsIn_cons]
    obtain ⟨o0, q0, d0, p0, u0⟩ := g0.get (i := 0) rfl
    refine op_does q0 u0 (move _ _ _ _ (Or.inr p0)) ?_
    rintro _ _ ⟨rfl, rfl⟩
    rw [d0]
    show (Exit.then _ _) .normal _ _
    simp only [Exit.then]
    refine wpIn_seq (wpIn_seq (wpIn_region ?_))
    rw [g1.size]
    show wpOpsIn _ _ _ _ _ [0, 1] _ _
    rw [wpOpsIn_cons]
    obtain ⟨o1, q1, d1, p1, u1⟩ := g1.get (i := 0) rfl
    refine op_does q1 u1 (move _ _ _ _ (Or.inl p1)) ?_
    rintro _ _ ⟨rfl, rfl⟩
    rw [d1, wpOpsIn_cons]
    obtain ⟨o2, q2, d2, p2, u2⟩ := g1.get (i := 1) rfl
    refine op_does (R := fun v w' => v = .bool ad.isNone ∧ w' = X.w) q2 u2 (does_value (by rw [p2]; intro c hc; cases hc) (v := .bool ad.isNone) (w' := X.w) ?_ ⟨rfl, rfl⟩) ?_
    · simp only [execOp, p2]
      exact run_v (slice_nil ht _ _ ad n cp X.w)
    rintro _ _ ⟨rfl, rfl⟩
    rw [d2]
    show (Exit.then _ _) .normal _ _
    simp only [Exit.then]
    cases ad with
    | none =>
      refine wpIn_cond_true rfl (wpIn_seq (wpIn_region ?_))
      rw [g2.size]
      show wpOpsIn _ _ _ _ _ [0] _ _
      rw [wpOpsIn_cons]
      obtain ⟨o3, q3, d3, p3, u3⟩ := g2.get (i := 0) rfl
      refine op_does q3 u3 (move _ _ _ _ (Or.inr p3)) ?_
      rintro _ _ ⟨rfl, rfl⟩
      rw [d3]
      show (Exit.then _ _) .normal _ _
      simp only [Exit.then]
      refine wpIn_ret ?_
      have hnew := elems_nil hx hel
      subst hnew
      subst hhh; subst hvv; subst hcc
      refine ⟨rfl, _, res _ _ (.slice none 0 0) (by simp [Act.put, Act.eval, noSlice]), X.newVirt p c, rfl, sim_newVirt hr hfresh, ?_, fun k hk => ?_⟩
      · simp only [RelV, List.length_nil]
        refine ⟨Or.inr rfl, none, 0, rfl, Nat.le_refl _, fun hh => absurd hh (Nat.lt_irrefl _), fun _ => rfl, fun b o' s hm => ?_⟩
        rw [mu_newVirt] at hm; cases hm
      · rcases hk with hk | rfl
        · exact Or.inl hk
        · exact Or.inr ⟨Nat.le_refl _, Nat.lt_succ_self _⟩
    | some ad =>
      refine wpIn_cond_false rfl (wpIn_skip ?_)
      simp only [Exit.then]
      refine wpIn_seq (wpIn_region ?_)
      rw [g3.size]
      show wpOpsIn _ _ _ _ _ [0, 1, 2, 3] _ _
      have hbs : buildSliceV P t 0 [] = some (.vec []) := by
        unfold buildSliceV
        rw [he]
        simp only [hz]
        rw [if_pos ⟨hzn, hsz, by omega⟩]
        rfl
      obtain ⟨Y1, r1, hrun1, hrel1, hsim1, hu1⟩ := buildSlice_sim (xs := #[]) hr (show PartsRel X [] _ from rfl) hbs
      rw [wpOpsIn_cons]
      obtain ⟨o4, q4, d4, p4, u4⟩ := g3.get (i := 0) rfl
      refine op_does (R := fun v w' => v = r1 ∧ w' = Y1.w) q4 u4 (does_value (by rw [p4]; intro c hc; cases hc) (v := r1) (w' := Y1.w) ?_ ⟨rfl, rfl⟩) ?_
      · simp only [execOp, p4]
        refine run_v ?_
        rw [Array.map_empty]
        exact hrun1
      intro v1 w1 e1
      rw [e1.1, e1.2, d4]
      clear e1 v1 w1
      rw [wpOpsIn_cons]
      obtain ⟨o5, q5, d5, p5, u5⟩ := g3.get (i := 1) rfl
      refine op_does q5 u5 (move _ _ _ _ (Or.inl p5)) ?_
      rintro _ _ ⟨rfl, rfl⟩
      rw [d5]
      have hcap : RelV Y1 .cap0 r1 := by
        simp only [RelV] at hrel1 ⊢
        obtain ⟨a, ha, _⟩ := hrel1
        exact ⟨a, by simpa using ha⟩
      obtain ⟨o6, q6, d6, p6, u6⟩ := g3.get (i := 2) rfl
      obtain ⟨_, Y, r, h1, h2, h3, h4⟩ := append_sim (ty := o6.type) hsim1.rel (fun hh => hfresh ((hu1 c).1 hh)) hcap (RelV.mono hsim1.grow.ext _ _ hx) hv
      rw [wpOpsIn_cons]
      have app : ∀ (a : Act), a.eval (.tmp 5) = r1 → a.eval (.tmp 6) = .slice (some ad) n cp → Does P o6 a Y1.w (fun v w' => v = r ∧ w' = Y.w) := by
        intro a e1 e2
        refine does_value (by rw [p6]; intro c hc; cases hc) (v := r) (w' := Y.w) ?_ ⟨rfl, rfl⟩
        simp only [execOp, p6, resolve, run_bind, run_pure, invoke, builtin, List.map_toArray, List.map_cons, List.map_nil, e1, e2, h1]
      refine op_does q6 u6 (app _ rfl rfl) ?_
      intro v1 w1 e1
      rw [e1.1, e1.2, d6]
      clear e1 v1 w1
      rw [wpOpsIn_cons]
      obtain ⟨o7, q7, d7, p7, u7⟩ := g3.get (i := 3) rfl
      refine op_does q7 u7 (move _ _ _ _ (Or.inr p7)) ?_
      intro v1 w1 e1
      rw [e1.1, e1.2, d7]
      clear e1 v1 w1
      show (Exit.then _ _) .normal _ _
      simp only [Exit.then]
      refine wpIn_ret ?_
      exact ⟨rfl, _, res _ _ r (by simp [Act.put, Act.eval]), Y, rfl, hsim1.trans h3, h2, fun k hk => (h4 k hk).imp (fun hh => (hu1 k).1 hh) id⟩

theorem clone_nostr {P : Program} {h : Heap} {p : List Nat} {c : Nat} {t : TypeId} {s : ByteArray} {r : V × Heap × Nat} (hv : appendV P h p c t .cap0 (.t (.str s)) t = some r) : False := by
  unfold appendV at hv
  split at hv
  · cases hv
  · next e he =>
    have hs : isStr P t = false := by
      unfold isStr
      rw [elemT_spec he]
    split at hv
    · simp [hs] at hv
    · cases hv

theorem clone_ok {C : Cfg} (hC : ∀ f fn t, C.md f = 5 → C.P.funcs[f]? = some fn → fn.params[0]? = some t → (fn.name == "runtime.NumGoroutine") = false ∧ fn.results = #[.tmp 2] ∧ fn.ntmps = 8 ∧ ∃ b, fn.body = some b ∧ Clones t b) : CloneOk C := by
  intro f fn t x p h c v h' c' hmd hfn ht hv
  obtain ⟨h1, h2, h3, b, h4, h5⟩ := hC f fn t hmd hfn ht
  exact clone_calls hfn h1 h4 h5 h2 h3 (fun s hs => by subst hs; exact clone_nostr hv) hv
end Go.Pv
