/- landed.receipts's closure, at the state that the runs come to: its one round. Conditions: none. -/
import Derived.Test.YtlgjiecmmajjjaaGreatTPre
namespace Go.Pv
open Go.Proofs Go.RowKit
set_option maxRecDepth 100000

def E0 : Env := ⟨fun _ _ => none, fun _ _ _ _ _ => none⟩
theorem good0 : Good cfg E0 := ⟨fun f ts r h => (by simp [E0] at h), fun f vs pre h c v h' c' hh => (by simp [E0] at hh), clones⟩
def okN (r : Option (Ex × St)) : Bool := match r with
  | some (.normal, _) => true
  | _ => false
def stOf (r : Option (Ex × St)) : St := match r with
  | some (_, s) => s
  | none => ⟨fun _ => .undef, Heap.emp, 0⟩
theorem okN_spec {r : Option (Ex × St)} (h : okN r = true) : r = some (.normal, stOf r) := by
  unfold okN at h
  split at h
  · rfl
  · cases h
theorem stage {c : Code} {s : St} {X : Ctx} {B : Nat} {a : Act} (hk : codeChk cfg 289 35 c = true) (hr : okN (code cfg E0 289 [] 100 c s) = true) (hS : SRel X B 35 s a) (hu : ∀ k, X.u k → k < s.c) {Q : Exit → Act → World → Prop}
    (hQ : ∀ Y a', Goes s.c B 35 X Y s (stOf (code cfg E0 289 [] 100 c s)) a a' → (∀ k, Y.u k → k < (stOf (code cfg E0 289 [] 100 c s)).c) → Q .normal a' Y.w) : c.wpIn (FR none) 1 cfg.P Q a X.w :=
  wpIn_mono (code_sim c (codeChk_ok good0 mixed c hk) s _ .normal (okN_spec hr) X a hS hu) fun e a' w' hq => by
    obtain ⟨rfl, Y, rfl, hgo, hY⟩ := hq
    exact hQ Y a' hgo hY

def itH : Heap := (Heap.emp.upd [] 0 (some ⟨true, .row [.t itA]⟩)).upd [] 1 (some ⟨true, .row [.t itB]⟩)
def itS (l : Nat) : St := ⟨Tmps.ofList [.t (.fn (.yield l) []), .ref [] 0 0 0, .ref [] 1 0 0], itH.ro, 2⟩
def itμ (m1 m2 : Option Loc) : Mu := fun p g => if g = 0 ∧ p = [] then m1 else if g = 1 ∧ p = [] then m2 else none

theorem itH_of {p : List Nat} {g : Nat} {x : Ob} (h : itH p g = some x) : (p = [] ∧ g = 1 ∧ x = ⟨true, .row [.t itB]⟩) ∨ (p = [] ∧ g = 0 ∧ x = ⟨true, .row [.t itA]⟩) := by
  unfold itH at h
  rcases upd_of h with ⟨rfl, rfl, e⟩ | ⟨_, h⟩
  · simp only [Option.some.injEq] at e
    exact Or.inl ⟨rfl, rfl, e.symm⟩
  · rcases upd_of h with ⟨rfl, rfl, e⟩ | ⟨_, h⟩
    · simp only [Option.some.injEq] at e
      exact Or.inr ⟨rfl, rfl, e.symm⟩
    · cases h

theorem ob_frozen {X Y : Ctx} {B : Nat} {l : Option Loc} {fz : Bool} {t : T} (hΦ : Y.Φ = X.Φ) (hw : Y.w = X.w) (h : ObRel X B l ⟨fz, .row [.t t]⟩) : ObRel Y B l ⟨true, .row [.t t]⟩ := by
  cases l with
  | none => exact h.elim
  | some l =>
    cases l with
    | virt => cases h
    | blk b o s =>
      obtain ⟨h0, h1, _, h3, cs, el, f, h4, _⟩ := h
      refine ⟨by rw [hw]; exact h0, h1, fun _ => rfl, ?_, cs, el, f, by rw [hw]; exact h4, fun hh => by cases hh⟩
      simp only [RowV, RelV] at h3 ⊢
      rw [hΦ, hw]
      exact h3

theorem row_some {h : Heap} {p : List Nat} {g : Nat} {es : List V} (hr : rowAt h p g = some es) : ∃ fz, h p g = some ⟨fz, .row es⟩ := by
  unfold rowAt at hr
  split at hr
  · next fz es' he =>
    simp only [Option.some.injEq] at hr; subst hr
    exact ⟨fz, he⟩
  · cases hr

theorem it_hrel {X : Ctx} {B : Nat} {h : Heap} (hr : HRel X B h) {p q : List Nat} {g j : Nat} (h1 : rowAt h p g = some [.t itA]) (h2 : rowAt h q j = some [.t itB]) :
    HRel ⟨X.Φ, itμ (X.μ p g) (X.μ q j), fun k => k < 2, X.w⟩ B itH := by
  obtain ⟨f1, k1⟩ := row_some h1
  obtain ⟨f2, k2⟩ := row_some h2
  refine ⟨fun p' g' x hx => ?_, fun p1 g1 x p2 g2 y b o s o' s' hx hy m1 m2 => ?_, hr.old, hr.base⟩
  · rcases itH_of hx with ⟨rfl, rfl, rfl⟩ | ⟨rfl, rfl, rfl⟩
    · exact ⟨Nat.lt_succ_self 1, ob_frozen (X := X) rfl rfl (hr.ob q j _ k2).2⟩
    · exact ⟨Nat.zero_lt_two, ob_frozen (X := X) rfl rfl (hr.ob p g _ k1).2⟩
  · have ne : ∀ b o s o' s', X.μ p g = some (.blk b o s) → X.μ q j = some (.blk b o' s') → False := by
      intro b o s o' s' e1 e2
      obtain ⟨rfl, rfl⟩ := hr.inj p g _ q j _ b o s o' s' k1 k2 e1 e2
      rw [k1] at k2
      simp only [Option.some.injEq, Ob.mk.injEq, Oc.row.injEq, List.cons.injEq, V.t.injEq] at k2
      cases k2.2.1
    rcases itH_of hx with ⟨rfl, rfl, rfl⟩ | ⟨rfl, rfl, rfl⟩ <;> rcases itH_of hy with ⟨rfl, rfl, rfl⟩ | ⟨rfl, rfl, rfl⟩
    · exact ⟨rfl, rfl⟩
    · exact (ne b _ _ _ _ m2 m1).elim
    · exact (ne b _ _ _ _ m1 m2).elim
    · exact ⟨rfl, rfl⟩

theorem relCs_ints (Φ : Nat → Prop) (w : World) : ∀ l : List Int, RelCs Φ w (l.map (T.int .i64)) (l.map (Value.int .i64))
  | [] => by simp only [List.map_nil, RelCs]
  | n :: l => by
    simp only [List.map_cons, RelCs]
    exact ⟨_, _, rfl, by simp only [RelT], trivial, relCs_ints Φ w l⟩
theorem itR_rel (Φ : Nat → Prop) (w : World) : RelT Φ w itR itV := by
  show RelT Φ w (.agg ([0, 0, 0, 9, 45, 9, 45, 0].map (T.int .i64))) (.agg (([0, 0, 0, 9, 45, 9, 45, 0] : List Int).map (Value.int .i64)).toArray)
  simp only [RelT]
  exact ⟨_, rfl, relCs_ints Φ w _⟩
theorem itR_of {Φ : Nat → Prop} {w : World} {v : Value} (h : RelT Φ w itR v) : v = itV := by
  have key : ∀ (l : List Int) (vs : List Value), RelCs Φ w (l.map (T.int .i64)) vs → vs = l.map (Value.int .i64) := by
    intro l
    induction l with
    | nil => intro vs h; simpa only [List.map_nil, RelCs] using h
    | cons n l ih =>
      intro vs h
      simp only [List.map_cons, RelCs, RelT] at h
      obtain ⟨v, vs', rfl, rfl, _, h⟩ := h
      rw [ih vs' h]; rfl
  have h' : RelT Φ w (.agg ([0, 0, 0, 9, 45, 9, 45, 0].map (T.int .i64))) v := h
  simp only [RelT] at h'
  obtain ⟨vs, rfl, h'⟩ := h'
  have := key _ _ h'
  show Value.agg vs = .agg (([0, 0, 0, 9, 45, 9, 45, 0] : List Int).map (Value.int .i64)).toArray
  rw [← this]

def itX (X : Ctx) (m1 m2 : Option Loc) (W : World) : Ctx := Ctx.ro ⟨X.Φ, itμ m1 m2, fun k => k < 2, W⟩ itH

theorem tmp_is {X : Ctx} {ts : Tmps} {a : Act} (hT : TRel X ts a) {t : Nat} {v : V} (hv : ts t = v) : RelV X v (a.eval (.tmp t)) := by
  rw [← hv]
  exact hT t
theorem sim_grown {B : Nat} {X Y : Ctx} {h h' : Heap} (hs : Sim B X Y h h') (ho : ∀ b, Owned X h b → X.Φ b) : X.w.grownBy Y.w none := by
  refine ⟨hs.grow.below.os, hs.grow.below.tape, hs.grow.below.output, hs.grow.below.size, fun k hk _ => ?_⟩
  by_cases h : Owned X h k
  · exact hs.grow.ext.same k (ho k h)
  · exact hs.frame k hk h
def okS (r : Option St) (c : Nat) : Bool := match r with
  | some s => Nat.beq s.c c
  | none => false
def stS (r : Option St) : St := match r with
  | some s => s
  | none => ⟨fun _ => .undef, Heap.emp, 0⟩
theorem okS_spec {r : Option St} {c : Nat} (h : okS r c = true) : r = some (stS r) ∧ (stS r).c = c := by
  unfold okS at h
  split at h
  · next s => exact ⟨rfl, Nat.eq_of_beq_eq_true h⟩
  · cases h
theorem opstep {c0 i B : Nat} {o : Oper} {ops : Array Oper} {s : St} {X : Ctx} {a : Act} {K : Act → World → Prop} {Q : Exit → Act → World → Prop} (ho : ops[i]? = some o)
    (hr : okS (stepI cfg E0 ⟨289, 6, c0, 5, false, []⟩ ops i o s) s.c = true) (hS : SRel X B 35 s a) (hd : dstOk 35 #[o] = true) (hu : ∀ k, X.u k → k < c0 + i) (hc : Nat.blt (c0 + i) s.c = true)
    (hK : ∀ Y a', Sim B X Y s.heap (stS (stepI cfg E0 ⟨289, 6, c0, 5, false, []⟩ ops i o s)).heap → SRel Y B 35 (stS (stepI cfg E0 ⟨289, 6, c0, 5, false, []⟩ ops i o s)) a' → a'.defers = a.defers → (∀ k, Y.u k → k < c0 + (i + 1)) → K a' Y.w) :
    wpOpIn (FR none) 1 cfg.P ops Q i K a X.w := by
  obtain ⟨h1, h2⟩ := okS_spec hr
  have hc' : c0 + i < s.c := by simpa using hc
  refine step_wp good0 (A := ⟨289, 6, c0, 5, false, []⟩) h1 ho hS (fun k hk => dstOk_spec hd o (by simp) k hk) (fun hh => ?_) (fun k hk => by have := hu k hk; omega) hc' fun Y a' hgo hY => ?_
  · have : c0 + i < c0 + i := hu _ hh
    omega
  · refine hK Y a' hgo.sim hgo.srel hgo.defers fun k hk => ?_
    rcases hY k hk with h | h | ⟨h3, h4⟩
    · have := hu k h; omega
    · have : k = c0 + i := h
      omega
    · rw [h2] at h4; omega
theorem op_yield {l n : Nat} {P : Program} {ops : Array Oper} {Q : Exit → Act → World → Prop} {i : Nat} {o : Oper} {K : Act → World → Prop} {a : Act} {w : World} {x y z : Operand} {ats : Array TypeId} {R : Ending → World → Prop} {vals : Array Value}
    (ho : ops[i]? = some o) (hg : o.guard = none) (hop : o.op = .call { callee := .value x, args := #[y, z], argTypes := ats }) (hx : a.eval x = .func (.yield l) #[] #[]) (hv : #[a.eval y, a.eval z] = vals)
    (hY : YieldAt (FR none) n P l vals w R) (hR : ∀ e w', R e w' → ∃ v, e = .returned v ∧ K (a.put o.dst v) w') : wpOpIn (FR none) (n + 1) P ops Q i K a w := by
  obtain ⟨fn, tmps, assign, body, hy, hround⟩ := hY
  have hnd : ∀ c, o.op ≠ .defer c := by rw [hop]; intro c hc; cases hc
  unfold wpOpIn
  rw [ho]
  simp only
  rw [if_pos (by unfold Region.wanted; rw [hg])]
  refine ⟨fun _ _ => trivial, ?_⟩
  have hrun : (execOp a.eval o).run P w = .ok (.round l fn tmps assign body) w := by
    simp only [execOp, hop, resolve, run_bind, run_pure, hx, Deferred.ofValue, invoke, List.map_toArray, List.map_cons, List.map_nil]
    rw [← hv] at hy
    simpa using hy
  rw [Oper.semAt_eq _ _ _ hnd, hrun]
  refine ⟨fun hh => (by cases hh), hround.mono fun e w' he => ?_⟩
  obtain ⟨v, rfl, hk⟩ := hR e w' he
  exact hk
theorem put_other {a : Act} {d t : Nat} {v : Value} (h : t ≠ d) : (a.put (some d) v).tmps.getD t undef = a.tmps.getD t undef := by
  simp [Act.put, Array.getD_eq_getD_getElem?, Array.getElem?_setIfInBounds_ne (Ne.symm h)]

def plus (s : St) (n : Nat) : St := { s with c := s.c + n }
theorem srel_plus {X : Ctx} {B N n : Nat} {s : St} {a : Act} (h : SRel X B N s a) : SRel X B N (plus s n) a := ⟨h.T, h.N, h.H⟩
theorem lt_lit {k m n : Nat} (h : k < m) (hb : Nat.ble m n = true) : k < n := Nat.lt_of_lt_of_le h (Nat.le_of_ble_eq_true hb)
/-- What is known behind the round. -/
def itT (b : Bool) : St := ⟨fun t => if t = 32 then .t (.bool b) else if t = 9 then .t (.int .i64 0) else if t = 8 then .t (.int .i64 1) else .junk, Heap.emp, 100⟩

theorem hrel_emp (W : World) : HRel ⟨fun _ => False, fun _ _ => none, fun _ => False, W⟩ 0 Heap.emp :=
  ⟨fun p g x hx => by simp [Heap.emp] at hx, fun p g x p' g' x' b o s o' s' hx => by simp [Heap.emp] at hx, fun b hb => hb.elim, Nat.zero_le _⟩
theorem not_owned_emp {X : Ctx} {b : Nat} {q : Prop} (h : Owned X Heap.emp b) : q := by
  obtain ⟨p, g, x, o, s, h, _⟩ := h
  simp [Heap.emp] at h

set_option maxHeartbeats 4000000 in
theorem it_run {B l : Nat} {X : Ctx} {a0 : Act} {J Jx : List Unit → World → Prop} (ha : a0.defers = []) (hX : ∀ b, Owned X (itS l).heap b → X.Φ b) (hS : SRel X B 35 (itS l) a0) (hu : ∀ k, X.u k → k < (itS l).c) {n0 : Nat} (hn0 : n0 ≤ X.w.heap.size)
    (hJ : AbidesFrom X.w.heap.size J) (hJx : AbidesFrom X.w.heap.size Jx)
    (hY : ∀ (pre : List Unit) (x : Unit) W1, J pre W1 → pre.length < 1 → YieldAt (FR none) 0 cfg.P l #[.int .i64 0, itV] W1 fun e W' =>
      (e = .returned (.bool true) ∧ J (pre ++ [x]) W' ∧ ∀ b, b < n0 → W'.heap[b]? = W1.heap[b]?) ∨ (e = .returned (.bool false) ∧ Jx (pre ++ [x]) W')) (h0 : J [] X.w) :
    ∀ b, Tryz.f289.body = some b → b.wpIn (FR none) 1 cfg.P (bodyPost cfg.P Tryz.f289 fun e W' => (∃ v, e = .returned v) ∧ ((∃ xs : List Unit, xs = [()] ∧ J xs W') ∨ (∃ pre : List Unit, True ∧ Jx pre W'))) a0 X.w := by
  intro b hb
  have hb' : some b = Tryz.f289.body := hb.symm
  simp only [Tryz.f289, Option.some.injEq] at hb'
  subst hb'
  refine wpIn_seq (stage (by kernel_rfl) (by kernel_rfl) hS hu fun Y1 a1 hg1 hu1 => ?_)
  simp only [Exit.then]
  refine wpIn_block (wpIn_loop_rounds 2 ?_)
  rw [roundsIn_succ]
  refine wpIn_seq (stage (by kernel_rfl) (by kernel_rfl) hg1.srel hu1 fun Y2 a2 hg2 hu2 => ?_)
  simp only [Exit.then]
  refine wpIn_seq (wpIn_cond_true (rel_bool (tmp_is hg2.T (by kernel_rfl))) (wpIn_skip ?_))
  simp only [Exit.then]
  refine wpIn_seq (wpIn_block ?_)
  refine wpIn_seq (stage (by kernel_rfl) (by kernel_rfl) hg2.srel hu2 fun Y3 a3 hg3 hu3 => ?_)
  simp only [Exit.then]
  refine wpIn_seq (stage (by kernel_rfl) (by kernel_rfl) hg3.srel hu3 fun Y4 a4 hg4 hu4 => ?_)
  simp only [Exit.then]
  refine wpIn_seq (stage (by kernel_rfl) (by kernel_rfl) hg4.srel hu4 fun Y5 a5 hg5 hu5 => ?_)
  simp only [Exit.then]
  refine wpIn_seq (wpIn_region ?_)
  show wpOpsIn _ _ _ _ _ [0, 1, 2, 3, 4] _ _
  rw [wpOpsIn_cons]
  refine opstep (c0 := 29) (o := _) rfl (by kernel_rfl) (srel_plus (n := 5) hg5.srel) (by kernel_rfl) (fun k hk => lt_lit (hu5 k hk) (by kernel_rfl)) (by kernel_rfl) fun Y6 a6 hg6 hS6 hd6 hu6 => ?_
  rw [wpOpsIn_cons]
  refine opstep (c0 := 29) (o := _) rfl (by kernel_rfl) hS6 (by kernel_rfl) hu6 (by kernel_rfl) fun Y7 a7 hg7 hS7 hd7 hu7 => ?_
  rw [wpOpsIn_cons]
  refine opstep (c0 := 29) (o := _) rfl (by kernel_rfl) hS7 (by kernel_rfl) hu7 (by kernel_rfl) fun Y8 a8 hg8 hS8 hd8 hu8 => ?_
  rw [wpOpsIn_cons]
  have hsim := ((((((hg1.sim.trans hg2.sim).trans hg3.sim).trans hg4.sim).trans hg5.sim).trans hg6).trans hg7).trans hg8
  have hgr := sim_grown hsim hX
  have e29 := tmp_is hS8.T (t := 29) (v := .t (.fn (.yield l) [])) (by kernel_rfl)
  have e30 := tmp_is hS8.T (t := 30) (v := .t (.int .i64 0)) (by kernel_rfl)
  have e31 := tmp_is hS8.T (t := 31) (v := .t itR) (by kernel_rfl)
  have e8 := tmp_is hS8.T (t := 8) (v := .t (.int .i64 1)) (by kernel_rfl)
  have e9 := tmp_is hS8.T (t := 9) (v := .t (.int .i64 0)) (by kernel_rfl)
  have f29 : a8.eval (.tmp 29) = .func (.yield l) #[] #[] := by
    simp only [RelV, RelT, RelTs] at e29
    obtain ⟨vs, h1, h2⟩ := e29
    rw [h1, Array.toList_inj.1 (show vs.toList = (#[] : Array Value).toList by simpa using h2)]
  have f30 := rel_int e30
  have f31 : a8.eval (.tmp 31) = itV := itR_of (by simpa only [RelV] using e31)
  have f8 := rel_int e8
  have f9 := rel_int e9
  have hJ1 : J [] Y8.w := hJ [] _ _ none h0 hgr (fun r e => by cases e)
  have hsz : 32 < a8.tmps.size := by rw [hS8.N]; decide
  refine op_yield (n := 0) (x := .tmp 29) (y := .tmp 30) (z := .tmp 31) (vals := #[.int .i64 0, itV]) rfl rfl rfl f29 (by rw [f30, f31]) (hY [] () Y8.w hJ1 (by decide)) ?_
  intro e W' he
  obtain ⟨b, rfl, hb⟩ : ∃ b, e = .returned (.bool b) ∧ if b then J [()] W' else Jx [()] W' := by
    rcases he with ⟨rfl, h, _⟩ | ⟨rfl, h⟩
    · exact ⟨true, rfl, h⟩
    · exact ⟨false, rfl, h⟩
  refine ⟨_, rfl, ?_⟩
  show wpOpsIn _ _ _ _ _ [4] (a8.put (some 32) (.bool b)) W'
  have hd8' : (a8.put (some 32) (.bool b)).defers = [] := by
    rw [put_defers, hd8, hd7, hd6, hg5.defers, hg4.defers, hg3.defers, hg2.defers, hg1.defers, ha]
  have hZ : SRel ⟨fun _ => False, fun _ _ => none, fun _ => False, W'⟩ 0 35 (itT b) (a8.put (some 32) (.bool b)) := by
    refine ⟨fun t => ?_, by rw [put_size, hS8.N], hrel_emp W'⟩
    show RelV _ (if t = 32 then .t (.bool b) else if t = 9 then .t (.int .i64 0) else if t = 8 then .t (.int .i64 1) else .junk) _
    by_cases h32 : t = 32
    · subst h32
      rw [if_pos rfl, put_get rfl hsz]
      simp only [RelV, RelT]
    · rw [if_neg h32, put_other h32]
      by_cases h9 : t = 9
      · subst h9
        rw [if_pos rfl]
        have : a8.tmps.getD 9 undef = .int .i64 0 := f9
        rw [this]
        simp only [RelV, RelT]
      · rw [if_neg h9]
        by_cases h8 : t = 8
        · subst h8
          rw [if_pos rfl]
          have : a8.tmps.getD 8 undef = .int .i64 1 := f8
          rw [this]
          simp only [RelV, RelT]
        · rw [if_neg h8]
          simp only [RelV]
  clear hg1 hg2 hg3 hg4 hg5 hg6 hg7 hg8 hS hS6 hS7 hS8 e29 e30 e31 e8 e9 hsim
  rw [wpOpsIn_cons]
  refine opstep (c0 := 0) (o := _) (s := itT b) (X := ⟨fun _ => False, fun _ _ => none, fun _ => False, W'⟩) (B := 0) rfl (by kernel_rfl) hZ (by kernel_rfl) (fun k hk => hk.elim) (by kernel_rfl) fun Z1 b1 hz1 hSz1 hdz1 huz1 => ?_
  have hgr1 := sim_grown hz1 (fun b ho => not_owned_emp ho)
  show (Exit.then _ _) .normal _ _
  simp only [Exit.then]
  cases b with
  | false =>
    refine wpIn_cond_true (rel_bool (tmp_is hSz1.T (by kernel_rfl))) (wpIn_ret ?_)
    refine ⟨hdz1.trans hd8', _, results_none rfl _ _ _, ⟨_, rfl⟩, Or.inr ⟨[()], trivial, ?_⟩⟩
    exact hJx [()] _ _ none hb hgr1 (fun r e => by cases e)
  | true =>
    refine wpIn_cond_false (rel_bool (tmp_is hSz1.T (by kernel_rfl))) (wpIn_skip ?_)
    simp only [Exit.inBlock, Exit.then]
    refine stage (by kernel_rfl) (by kernel_rfl) hSz1 (fun k hk => lt_lit (huz1 k hk) (by kernel_rfl)) fun Z2 b2 hz2 huz2 => ?_
    show (Exit.then _ _) .normal _ _
    simp only [Exit.then]
    rw [roundsIn_succ]
    refine wpIn_seq (stage (by kernel_rfl) (by kernel_rfl) hz2.srel huz2 fun Z3 b3 hz3 huz3 => ?_)
    simp only [Exit.then]
    refine wpIn_seq (wpIn_cond_false (rel_bool (tmp_is hz3.T (by kernel_rfl))) (wpIn_exit ?_))
    have hgr3 := sim_grown ((hz1.trans hz2.sim).trans hz3.sim) (fun b ho => not_owned_emp ho)
    refine ⟨hz3.defers.trans (hz2.defers.trans (hdz1.trans hd8')), _, results_none rfl _ _ _, ⟨_, rfl⟩, Or.inl ⟨[()], rfl, ?_⟩⟩
    exact hJ [()] _ _ none hb hgr3 (fun r e => by cases e)

theorem it_start {X : Ctx} {B l : Nat} {h : Heap} (hr : HRel X B h) {p q : List Nat} {g j : Nat} (h1 : rowAt h p g = some [.t itA]) (h2 : rowAt h q j = some [.t itB]) {v1 v2 : Value} (hv1 : RelV X (.ref p g 0 0) v1) (hv2 : RelV X (.ref q j 0 0) v2) :
    SRel (itX X (X.μ p g) (X.μ q j) X.w) B 35 (itS l) { tmps := #[.func (.yield l) #[] #[], v1, v2] ++ Array.replicate 32 undef, defers := [] } := by
  simp only [RelV] at hv1 hv2
  obtain ⟨_, a1, rfl, hm1⟩ := hv1
  obtain ⟨_, a2, rfl, hm2⟩ := hv2
  refine ⟨trel_start (vs := [.t (.fn (.yield l) []), .ref [] 0 0 0, .ref [] 1 0 0]) ?_ _, by simp, hrel_ro (it_hrel hr h1 h2)⟩
  simp only [RelVs]
  refine ⟨_, _, rfl, ?_, _, _, rfl, ?_, _, _, rfl, ?_, rfl⟩
  · simp only [RelV, RelT, RelTs]
    exact ⟨#[], rfl, rfl⟩
  · simp only [RelV]
    exact ⟨Nat.zero_lt_two, a1, rfl, hm1⟩
  · simp only [RelV]
    exact ⟨Nat.lt_succ_self 1, a2, rfl, hm2⟩

theorem iter_ok : IterOk cfg := by
  intro k h ca x hit
  have hit' : iterT k h ca = some x := hit
  unfold iterT at hit'
  split at hit'
  · next hk =>
    subst hk
    split at hit'
    · next p g a b q j c d =>
      split at hit'
      · next hz =>
        obtain ⟨rfl, rfl, rfl, rfl⟩ := hz
        split at hit'
        · next xx yy h1 h2 =>
          split at hit'
          · next hb =>
            simp only [Option.some.injEq] at hit'; subst hit'
            simp only [Bool.and_eq_true] at hb
            have e1 := T.beq_eq _ _ hb.1
            have e2 := T.beq_eq _ _ hb.2
            subst e1; subst e2
            refine ⟨⟨_, Tryz.func289, by kernel_rfl, by kernel_rfl⟩, fun X B lb hr hca => ?_⟩
            simp only [RelVs] at hca
            obtain ⟨v1, r1, hl, hv1, v2, r2, rfl, hv2, rfl⟩ := hca
            have hlb : lb = #[v1, v2] := Array.toList_inj.1 (by simpa using hl)
            subst hlb
            refine ⟨#[.int .i64 0, itV], ?_, ?_⟩
            · simp only [List.map_cons, List.map_nil, RelVs, RelV]
              exact ⟨_, _, rfl, by simp only [RelT], _, _, rfl, itR_rel _ _, rfl⟩
            · intro l J Jx W hW hJ hJx hY h0
              have hE := ext_below hr.old (fun _ h => h) hW
              have hS := it_start (l := l) (hrel_below hr hW) h1 h2 (RelV.mono hE _ _ hv1) (RelV.mono hE _ _ hv2)
              refine callsIn_of_wp (n := 1) Tryz.func289 rfl trivial ?_
              have hn : Tryz.f289.ntmps = 35 := Tryz.ntmps289
              rw [hn]
              exact it_run (B := B) (l := l) (X := itX ⟨X.Φ, X.μ, X.u, W⟩ (X.μ p g) (X.μ q j) W) (n0 := X.w.heap.size) rfl (fun b hb => Or.inr hb) hS (fun k hk => hk) hW.size hJ hJx hY h0 _ rfl
          · cases hit'
        · cases hit'
      · cases hit'
    · cases hit'
  · cases hit'
end Go.Pv
