/- The evaluator of Go code and its soundness, a part of four. Conditions: as each lemma says. -/
import Derived.Test.YtlgjiecmmajjjaaGreatPvL1
import Derived.Laws.MakeOwn
import Derived.MapKept
import Derived.Deep.AppendSrc
/- New blocks and written blocks: how the relation goes on. Conditions: as each lemma says. -/
namespace Go.Pv
open Go.RowKit

structure Grow (B : Nat) (X Y : Ctx) : Prop where
  ext : Ext X Y
  below : Below B X.w Y.w
  Φ : ∀ b, Y.Φ b → X.Φ b ∨ B ≤ b
theorem Grow.refl (B : Nat) (X : Ctx) : Grow B X X := ⟨Ext.refl X, Below.refl _ _, fun _ h => Or.inl h⟩
theorem Grow.trans {B : Nat} {X Y Z : Ctx} (h : Grow B X Y) (k : Grow B Y Z) : Grow B X Z :=
  ⟨h.ext.trans k.ext, h.below.trans k.below, fun b hb => (k.Φ b hb).elim (fun hb => h.Φ b hb) Or.inr⟩

/-- A row of elements within an array of cells. -/
def RowC (X : Ctx) (cs : Array Value) (sz : Nat) : List V → Nat → Prop
  | [], _ => True
  | e :: es, o => (∃ x, RelV X e x ∧ e.still = true ∧ x.cells.size = sz ∧ (∀ y ∈ x.cells.toList, Sc y) ∧ ∀ j v, x.cells.toList[j]? = some v → cs[o + j]? = some v) ∧ RowC X cs sz es (o + sz)
theorem RowC.row {X Y : Ctx} (hX : Ext X Y) {cs : Array Value} {el : TypeId} {f : Nat × Nat} {b sz : Nat} (hb : Y.w.heap[b]? = some (.cells cs el f)) : ∀ {es : List V} {o : Nat}, RowC X cs sz es o → RowV Y b sz es o
  | [], _, _ => trivial
  | e :: es, o, h => by
    obtain ⟨⟨x, h1, h2, h3, h4, h5⟩, h⟩ := h
    exact ⟨⟨x, RelV.mono hX e x h1, h2, h3, h4, cs, el, f, hb, h5⟩, RowC.row hX hb h⟩
theorem RowC.of_row {X : Ctx} {cs : Array Value} {el : TypeId} {f : Nat × Nat} {b sz : Nat} (hb : X.w.heap[b]? = some (.cells cs el f)) : ∀ {es : List V} {o : Nat}, RowV X b sz es o → RowC X cs sz es o
  | [], _, _ => trivial
  | e :: es, o, h => by
    obtain ⟨⟨x, h1, h2, h3, h4, cs', el', f', hb', h5⟩, h⟩ := h
    rw [hb] at hb'
    simp only [Option.some.injEq, Obj.cells.injEq] at hb'
    obtain ⟨rfl, rfl, rfl⟩ := hb'
    exact ⟨⟨x, h1, h2, h3, h4, h5⟩, RowC.of_row hb h⟩
theorem RowC.mono {X Y : Ctx} (hX : Ext X Y) {cs : Array Value} {sz : Nat} : ∀ {es : List V} {o : Nat}, RowC X cs sz es o → RowC Y cs sz es o
  | [], _, _ => trivial
  | e :: es, o, h => by
    obtain ⟨⟨x, h1, h2, h3, h4, h5⟩, h⟩ := h
    exact ⟨⟨x, RelV.mono hX e x h1, h2, h3, h4, h5⟩, RowC.mono hX h⟩
/-- The cells beyond a row don't matter to it. -/
theorem RowC.congr {X : Ctx} {cs ds : Array Value} {sz : Nat} : ∀ {es : List V} {o d : Nat}, RowC X cs sz es o → (∀ j, j < es.length * sz → ds[d + j]? = cs[o + j]?) → RowC X ds sz es d
  | [], _, _, _, _ => trivial
  | e :: es, o, d, h, hj => by
    obtain ⟨⟨x, h1, h2, h3, h4, h5⟩, h⟩ := h
    refine ⟨⟨x, h1, h2, h3, h4, fun j v hv => ?_⟩, RowC.congr h fun j hlt => ?_⟩
    · have hlt : j < x.cells.toList.length := (List.getElem?_eq_some_iff.1 hv).1
      simp only [Array.length_toList] at hlt
      rw [hj j (by simp only [List.length_cons, Nat.succ_mul]; omega)]
      exact h5 j v hv
    · have := hj (sz + j) (by simp only [List.length_cons, Nat.succ_mul]; omega)
      rw [show d + sz + j = d + (sz + j) from by omega, show o + sz + j = o + (sz + j) from by omega]
      exact this
theorem RowC.append {X : Ctx} {cs : Array Value} {sz : Nat} : ∀ {es fs : List V} {o : Nat}, RowC X cs sz es o → RowC X cs sz fs (o + es.length * sz) → RowC X cs sz (es ++ fs) o
  | [], _, _, _, k => by simpa using k
  | e :: es, fs, o, h, k => by
    refine ⟨h.1, RowC.append h.2 ?_⟩
    rw [show o + sz + es.length * sz = o + (e :: es).length * sz from by simp [Nat.succ_mul]; omega]
    exact k
theorem RowC.drop {X : Ctx} {cs : Array Value} {sz' : Nat} : ∀ (k : Nat) {es : List V} {o : Nat}, RowC X cs sz' es o → RowC X cs sz' (es.drop k) (o + k * sz')
  | 0, _, _, h => by simpa using h
  | k + 1, [], _, _ => by simp [RowC]
  | k + 1, e :: es, o, h => by
    have := RowC.drop k h.2
    rw [show o + (k + 1) * sz' = o + sz' + k * sz' from by rw [Nat.succ_mul]; omega]
    simpa using this
theorem RowC.take {X : Ctx} {cs : Array Value} {sz' : Nat} : ∀ (k : Nat) {es : List V} {o : Nat}, RowC X cs sz' es o → RowC X cs sz' (es.take k) o
  | 0, _, _, _ => by simp [RowC]
  | k + 1, [], _, _ => by simp [RowC]
  | k + 1, e :: es, o, h => by
    simp only [List.take_succ_cons]
    exact ⟨h.1, RowC.take k h.2⟩
theorem RowC.len {X : Ctx} {cs : Array Value} {sz' : Nat} (hp : 0 < sz') : ∀ {es : List V} {o : Nat}, RowC X cs sz' es o → es ≠ [] → o + es.length * sz' ≤ cs.size
  | [], _, _, hne => absurd rfl hne
  | e :: es, o, h, _ => by
    obtain ⟨⟨x, _, _, h3, _, h5⟩, h⟩ := h
    by_cases he : es = []
    · subst he
      have hx : x.cells.toList.length = sz' := by simpa using h3
      have : x.cells.toList[sz' - 1]? = some (x.cells.toList[sz' - 1]'(by omega)) := List.getElem?_eq_getElem _
      have := h5 _ _ this
      have := (Array.getElem?_eq_some_iff.1 this).1
      simp; omega
    · have := RowC.len hp h he
      simp only [List.length_cons, Nat.succ_mul]; omega
theorem RowC.set {X : Ctx} {cs ds : Array Value} {sz' : Nat} : ∀ {es : List V} {o i : Nat} {e' : V} {x' : Value}, RowC X cs sz' es o → i < es.length → RelV X e' x' → e'.still = true → x'.cells.size = sz' → (∀ y ∈ x'.cells.toList, Sc y) →
    (∀ j v, x'.cells.toList[j]? = some v → ds[o + i * sz' + j]? = some v) → (∀ k, k < o + i * sz' ∨ o + (i + 1) * sz' ≤ k → ds[k]? = cs[k]?) → RowC X ds sz' (es.set i e') o
  | [], _, _, _, _, _, hi, _, _, _, _, _, _ => by simp at hi
  | e :: es, o, 0, e', x', h, _, h1, h2, h3, h4, h5, h6 => by
    refine ⟨⟨x', h1, h2, h3, h4, by simpa using h5⟩, ?_⟩
    refine RowC.congr h.2 fun j hj => h6 _ (Or.inr (by omega))
  | e :: es, o, i + 1, e', x', h, hi, h1, h2, h3, h4, h5, h6 => by
    obtain ⟨⟨x, g1, g2, g3, g4, g5⟩, h⟩ := h
    refine ⟨⟨x, g1, g2, g3, g4, fun j v hv => ?_⟩, RowC.set (i := i) h (by simpa using hi) h1 h2 h3 h4 ?_ ?_⟩
    · have hlt : j < x.cells.toList.length := (List.getElem?_eq_some_iff.1 hv).1
      simp only [Array.length_toList] at hlt
      rw [h6 _ (Or.inl (by rw [Nat.succ_mul]; omega))]
      exact g5 j v hv
    · intro j v hv
      have := h5 j v hv
      rw [show o + sz' + i * sz' + j = o + (i + 1) * sz' + j from by rw [Nat.succ_mul]; omega]
      exact this
    · intro k hk
      refine h6 k ?_
      rcases hk with hk | hk
      · left; rw [Nat.succ_mul]; omega
      · right; rw [Nat.succ_mul]; omega

def alloc (w : World) (o : Obj) : World := { w with heap := w.heap.push o }
theorem alloc_heap (w : World) (o : Obj) (k : Nat) : (alloc w o).heap[k]? = if k = w.heap.size then some o else w.heap[k]? := by
  show (w.heap.push o)[k]? = _
  rw [Array.getElem?_push]
@[simp] theorem alloc_size (w : World) (o : Obj) : (alloc w o).heap.size = w.heap.size + 1 := by
  show (w.heap.push o).size = _
  rw [Array.size_push]
theorem alloc_old {w : World} {o : Obj} {k : Nat} (h : k < w.heap.size) : (alloc w o).heap[k]? = w.heap[k]? := by rw [alloc_heap, if_neg (by omega)]
theorem alloc_below {B : Nat} {w : World} (o : Obj) (h : B ≤ w.heap.size) : Below B w (alloc w o) := ⟨rfl, rfl, rfl, by simp, fun k hk => alloc_old (by omega)⟩
theorem room_alloc {w : World} (o : Obj) {b n : Nat} (h : room w b n) : room (alloc w o) b n := by
  obtain ⟨cs, el, f, hb, hn⟩ := h
  exact ⟨cs, el, f, (alloc_old (lt_of_heap hb)).trans hb, hn⟩

theorem ObRel.mono {X Y : Ctx} {B : Nat} {l : Option Loc} {ob : Ob} (hX : Ext X Y) (hs : ∀ b o s, l = some (.blk b o s) → Y.w.heap[b]? = X.w.heap[b]? ∧ (Y.Φ b → X.Φ b ∨ (∃ es, ob.o = .row es) ∧ ob.fz = true)) (h : ObRel X B l ob) : ObRel Y B l ob := by
  obtain ⟨fz, o⟩ := ob
  cases o with
  | row es =>
    cases l with
    | none => exact h.elim
    | some l => cases l with
      | virt => exact h
      | blk b o s =>
        obtain ⟨h0, h1, h2, h3, cs, el, f, h4, h5⟩ := h
        obtain ⟨e1, e2⟩ := hs b o s rfl
        refine ⟨hX.room _ _ h0, h1, fun hb => ?_, RowV.mono hX b s e1 es o h3, cs, el, f, e1.trans h4, h5⟩
        rcases e2 hb with e | ⟨_, e⟩
        · exact h2 e
        · exact e
  | mp k es =>
    cases l with
    | none => exact h.elim
    | some l => cases l with
      | virt => exact h.elim
      | blk b o s =>
        obtain ⟨h1, h2, l, clock, h3, h4, h5⟩ := h
        obtain ⟨e1, e2⟩ := hs b o s rfl
        refine ⟨h1, fun hb => ?_, l, clock, e1.trans h3, h4, fun n => ?_⟩
        · rcases e2 hb with e | ⟨⟨_, e⟩, _⟩
          · exact h2 e
          · cases e
        · have := h5 n
          split at this
          · obtain ⟨e, i, g1, g2, g3, g4⟩ := this
            exact ⟨e, i, g1, g2, g3, RelV.mono hX _ _ g4⟩
          · exact this
  | it s pos =>
    cases l with
    | none => exact h.elim
    | some l => cases l with
      | virt => exact h.elim
      | blk b o s' =>
        obtain ⟨h1, h2, h3⟩ := h
        obtain ⟨e1, e2⟩ := hs b o s' rfl
        refine ⟨h1, fun hb => ?_, e1.trans h3⟩
        rcases e2 hb with e | ⟨⟨_, e⟩, _⟩
        · exact h2 e
        · cases e
theorem ObRel.lt {X : Ctx} {B b o s : Nat} {ob : Ob} (h : ObRel X B (some (.blk b o s)) ob) : b < X.w.heap.size := by
  obtain ⟨fz, oc⟩ := ob
  cases oc with
  | row es => obtain ⟨_, _, _, _, cs, el, f, h4, _⟩ := h; exact lt_of_heap h4
  | mp k es => obtain ⟨_, _, l, c, h4, _⟩ := h; exact lt_of_heap h4
  | it s pos => exact lt_of_heap h.2.2

def Mu.upd (μ : Mu) (p : List Nat) (g : Nat) (l : Loc) : Mu := fun q k => if k = g ∧ q = p then some l else μ q k
/-- A context with one block more, which nobody names. -/
def Ctx.new (X : Ctx) (o : Obj) : Ctx := { X with w := alloc X.w o }
/-- .. which is a key's. -/
def Ctx.newKey (X : Ctx) (p : List Nat) (g o s : Nat) (ob : Obj) : Ctx := ⟨X.Φ, X.μ.upd p g (.blk X.w.heap.size o s), fun k => X.u k ∨ k = g, alloc X.w ob⟩
def Ctx.newVirt (X : Ctx) (p : List Nat) (g : Nat) : Ctx := ⟨X.Φ, X.μ.upd p g .virt, fun k => X.u k ∨ k = g, X.w⟩
/-- .. which is frozen. -/
def Ctx.newΦ (X : Ctx) (ob : Obj) : Ctx := ⟨fun b => X.Φ b ∨ b = X.w.heap.size, X.μ, X.u, alloc X.w ob⟩

theorem grow_newKey {X : Ctx} {B : Nat} {h : Heap} (hr : HRel X B h) {p : List Nat} {g o s : Nat} {ob : Obj} (hg : ¬ X.u g) : Grow B X (X.newKey p g o s ob) := by
  refine ⟨⟨fun _ hb => hb, fun _ hk => Or.inl hk, fun q k hk => ?_, fun b hb => alloc_old (hr.old b hb), fun b n => room_alloc _⟩, alloc_below _ hr.base, fun _ hb => Or.inl hb⟩
  simp only [Ctx.newKey, Mu.upd]
  rw [if_neg]
  rintro ⟨rfl, _⟩; exact hg hk
theorem grow_newVirt {X : Ctx} {B : Nat} {p : List Nat} {g : Nat} (hg : ¬ X.u g) : Grow B X (X.newVirt p g) := by
  refine ⟨⟨fun _ hb => hb, fun _ hk => Or.inl hk, fun q k hk => ?_, fun b hb => rfl, fun b n h => h⟩, Below.refl _ _, fun _ hb => Or.inl hb⟩
  simp only [Ctx.newVirt, Mu.upd]
  rw [if_neg]
  rintro ⟨rfl, _⟩; exact hg hk
theorem grow_newΦ {X : Ctx} {B : Nat} {h : Heap} (hr : HRel X B h) {ob : Obj} : Grow B X (X.newΦ ob) :=
  ⟨⟨fun _ hb => Or.inl hb, fun _ hk => hk, fun q k hk => rfl, fun b hb => alloc_old (hr.old b hb), fun b n => room_alloc _⟩, alloc_below _ hr.base, fun b hb => hb.imp id (fun e => by rw [e]; exact hr.base)⟩
theorem upd_of {h : Heap} {p q : List Nat} {g k : Nat} {x : Option Ob} {y : Ob} (hy : h.upd p g x q k = some y) : (k = g ∧ q = p ∧ x = some y) ∨ (¬ (k = g ∧ q = p) ∧ h q k = some y) := by
  unfold Heap.upd at hy
  split at hy
  · next h => exact Or.inl ⟨h.1, h.2, hy⟩
  · next h => exact Or.inr ⟨h, hy⟩
theorem hrel_newΦ {X : Ctx} {B : Nat} {h : Heap} (hr : HRel X B h) {ob : Obj} : HRel (X.newΦ ob) B h := by
  refine ⟨fun p g x hx => ?_, hr.inj, fun b hb => ?_, by simp [Ctx.newΦ]; have := hr.base; omega⟩
  · obtain ⟨h1, h2⟩ := hr.ob p g x hx
    refine ⟨h1, ObRel.mono (grow_newΦ hr).ext (fun b o s hl => ?_) h2⟩
    simp only [Ctx.newΦ] at hl
    rw [hl] at h2
    have hlt := ObRel.lt h2
    exact ⟨alloc_old hlt, fun hb => hb.elim Or.inl (fun e => by omega)⟩
  · simp only [Ctx.newΦ, alloc_size] at hb ⊢
    rcases hb with hb | hb
    · have := hr.old b hb; omega
    · omega
theorem hrel_newKey {X : Ctx} {B : Nat} {h : Heap} (hr : HRel X B h) {p : List Nat} {g s o : Nat} {x : Ob} {ob : Obj} (hg : ¬ X.u g)
    (hx : ObRel (X.newKey p g o s ob) B (some (.blk X.w.heap.size o s)) x) : HRel (X.newKey p g o s ob) B (h.upd p g (some x)) := by
  have hG := grow_newKey hr (p := p) (g := g) (o := o) (s := s) (ob := ob) hg
  have old : ∀ q k y, h q k = some y → (X.newKey p g o s ob).μ q k = X.μ q k := fun q k y hy => hG.ext.μ q k (hr.ob q k y hy).1
  refine ⟨fun q k y hy => ?_, fun q k y q' k' y' b o1 s1 o2 s2 hy hy' hm hm' => ?_, fun b hb => ?_, by simp [Ctx.newKey]; have := hr.base; omega⟩
  · rcases upd_of hy with ⟨rfl, rfl, hh⟩ | ⟨hne, hh⟩
    · simp only [Option.some.injEq] at hh; subst hh
      refine ⟨Or.inr rfl, ?_⟩
      have : (X.newKey q k o s ob).μ q k = some (.blk X.w.heap.size o s) := by simp [Ctx.newKey, Mu.upd]
      rw [this]; exact hx
    · obtain ⟨h1, h2⟩ := hr.ob q k y hh
      refine ⟨Or.inl h1, ?_⟩
      rw [old q k y hh]
      refine ObRel.mono hG.ext (fun b o s hl => ?_) h2
      rw [hl] at h2
      exact ⟨alloc_old (ObRel.lt h2), Or.inl⟩
  · rcases upd_of hy with ⟨rfl, rfl, hh⟩ | ⟨hne, hh⟩
    · have e1 : (X.newKey q k o s ob).μ q k = some (.blk X.w.heap.size o s) := by simp [Ctx.newKey, Mu.upd]
      rcases upd_of hy' with ⟨rfl, rfl, hh'⟩ | ⟨hne', hh'⟩
      · exact ⟨rfl, rfl⟩
      · exfalso
        rw [e1] at hm; simp only [Option.some.injEq, Loc.blk.injEq] at hm
        rw [old q' k' y' hh'] at hm'
        have h2 := (hr.ob q' k' y' hh').2
        rw [hm'] at h2
        have := ObRel.lt h2; omega
    · rcases upd_of hy' with ⟨rfl, rfl, hh'⟩ | ⟨hne', hh'⟩
      · exfalso
        have e1 : (X.newKey q' k' o s ob).μ q' k' = some (.blk X.w.heap.size o s) := by simp [Ctx.newKey, Mu.upd]
        rw [e1] at hm'; simp only [Option.some.injEq, Loc.blk.injEq] at hm'
        rw [old q k y hh] at hm
        have h2 := (hr.ob q k y hh).2
        rw [hm] at h2
        have := ObRel.lt h2; omega
      · rw [old q k y hh] at hm
        rw [old q' k' y' hh'] at hm'
        exact hr.inj q k y q' k' y' b o1 s1 o2 s2 hh hh' hm hm'
  · have := hr.old b hb
    simp [Ctx.newKey]; omega
theorem hrel_newVirt {X : Ctx} {B : Nat} {h : Heap} (hr : HRel X B h) {p : List Nat} {g : Nat} (hg : ¬ X.u g) : HRel (X.newVirt p g) B (h.upd p g (some ⟨false, .row []⟩)) := by
  have hG := grow_newVirt (B := B) (p := p) (g := g) hg
  have old : ∀ q k y, h q k = some y → (X.newVirt p g).μ q k = X.μ q k := fun q k y hy => hG.ext.μ q k (hr.ob q k y hy).1
  refine ⟨fun q k y hy => ?_, fun q k y q' k' y' b o1 s1 o2 s2 hy hy' hm hm' => ?_, hr.old, hr.base⟩
  · rcases upd_of hy with ⟨rfl, rfl, hh⟩ | ⟨hne, hh⟩
    · simp only [Option.some.injEq] at hh; subst hh
      refine ⟨Or.inr rfl, ?_⟩
      have : (X.newVirt q k).μ q k = some .virt := by simp [Ctx.newVirt, Mu.upd]
      rw [this]; rfl
    · obtain ⟨h1, h2⟩ := hr.ob q k y hh
      refine ⟨Or.inl h1, ?_⟩
      rw [old q k y hh]
      exact ObRel.mono hG.ext (fun b o s hl => ⟨rfl, Or.inl⟩) h2
  · rcases upd_of hy with ⟨rfl, rfl, hh⟩ | ⟨hne, hh⟩
    · have e1 : (X.newVirt q k).μ q k = some .virt := by simp [Ctx.newVirt, Mu.upd]
      rw [e1] at hm; cases hm
    · rcases upd_of hy' with ⟨rfl, rfl, hh'⟩ | ⟨hne', hh'⟩
      · have e1 : (X.newVirt q' k').μ q' k' = some .virt := by simp [Ctx.newVirt, Mu.upd]
        rw [e1] at hm'; cases hm'
      · rw [old q k y hh] at hm
        rw [old q' k' y' hh'] at hm'
        exact hr.inj q k y q' k' y' b o1 s1 o2 s2 hh hh' hm hm'
end Go.Pv
/- Steps of memory: what is touched, what stays. Conditions: as each lemma says. -/
namespace Go.Pv
open Go.RowKit

/-- A block that some key of the heap names. -/
def Owned (X : Ctx) (h : Heap) (b : Nat) : Prop := ∃ p g x o s, h p g = some x ∧ X.μ p g = some (.blk b o s)

structure Sim (B : Nat) (X Y : Ctx) (h h' : Heap) : Prop where
  grow : Grow B X Y
  rel : HRel Y B h'
  frame : ∀ b, b < X.w.heap.size → ¬ Owned X h b → Y.w.heap[b]? = X.w.heap[b]?
  newΦ : ∀ b, Y.Φ b → X.Φ b ∨ Owned X h b ∨ X.w.heap.size ≤ b
  own : ∀ b, Owned Y h' b → Owned X h b ∨ X.w.heap.size ≤ b

theorem Sim.refl {B : Nat} {X : Ctx} {h : Heap} (hr : HRel X B h) : Sim B X X h h := ⟨Grow.refl B X, hr, fun _ _ _ => rfl, fun _ hb => Or.inl hb, fun _ hb => Or.inl hb⟩
theorem Sim.trans {B : Nat} {X Y Z : Ctx} {h h' h'' : Heap} (s : Sim B X Y h h') (t : Sim B Y Z h' h'') : Sim B X Z h h'' := by
  have hsz := s.grow.below.size
  have own : ∀ b, Owned Y h' b → Owned X h b ∨ X.w.heap.size ≤ b := s.own
  refine ⟨s.grow.trans t.grow, t.rel, fun b hb hn => ?_, fun b hb => ?_, fun b hb => ?_⟩
  · rw [t.frame b (by omega) (fun ho => (own b ho).elim hn (fun hh => by omega))]
    exact s.frame b hb hn
  · rcases t.newΦ b hb with h1 | h1 | h1
    · exact s.newΦ b h1
    · exact Or.inr (own b h1)
    · exact Or.inr (Or.inr (by omega))
  · rcases t.own b hb with h1 | h1
    · exact own b h1
    · exact Or.inr (by omega)
/-- What was out of sight comes back as it was. -/
theorem Sim.frame_in {B : Nat} {X Y : Ctx} {H h h' M : Heap} (hr : HRel X B H) (hsub : ∀ p g x, h p g = some x → H p g = some x) (s : Sim B X Y h h')
    (hM : ∀ p g x, M p g = some x → h' p g = some x ∨ (H p g = some x ∧ h p g = none)) : Sim B X Y H M := by
  have sub : ∀ b, Owned X h b → Owned X H b := fun b ⟨p, g, x, o, s, h1, h2⟩ => ⟨p, g, x, o, s, hsub p g x h1, h2⟩
  have hid : ∀ p g x b o s, H p g = some x → h p g = none → X.μ p g = some (.blk b o s) → ¬ Owned X h b := by
    rintro p g x b o s h1 h2 h3 ⟨q, k, y, o', s', k1, k2⟩
    obtain ⟨rfl, rfl⟩ := hr.inj p g x q k y b o s o' s' h1 (hsub q k y k1) h3 k2
    rw [h2] at k1; cases k1
  have mu : ∀ p g x, H p g = some x → Y.μ p g = X.μ p g := fun p g x hx => s.grow.ext.μ p g (hr.ob p g x hx).1
  have lt : ∀ p g x b o s, H p g = some x → X.μ p g = some (.blk b o s) → b < X.w.heap.size := by
    intro p g x b o s h1 h2
    have := (hr.ob p g x h1).2
    rw [h2] at this
    exact ObRel.lt this
  have apart : ∀ p g x q k y b o s' o' s'', h' p g = some x → H q k = some y → h q k = none → Y.μ p g = some (.blk b o s') → Y.μ q k = some (.blk b o' s'') → False := by
    intro p g x q k y b o s' o' s'' h1 h2 h3 m1 m2
    rw [mu q k y h2] at m2
    rcases s.own b ⟨p, g, x, o, s', h1, m1⟩ with hh | hh
    · exact hid q k y b o' s'' h2 h3 m2 hh
    · have := lt q k y b o' s'' h2 m2; omega
  refine ⟨s.grow, ⟨fun p g x hx => ?_, fun p g x q k y b o s1 o2 s2 hx hy m1 m2 => ?_, s.rel.old, s.rel.base⟩, fun b hb hn => s.frame b hb (fun ho => hn (sub b ho)), fun b hb => ?_, fun b hb => ?_⟩
  · rcases hM p g x hx with h1 | ⟨h1, h2⟩
    · exact s.rel.ob p g x h1
    · obtain ⟨k1, k2⟩ := hr.ob p g x h1
      refine ⟨s.grow.ext.u g k1, ?_⟩
      rw [mu p g x h1]
      refine ObRel.mono s.grow.ext (fun b o s' hl => ?_) k2
      have hno := hid p g x b o s' h1 h2 hl
      have hlt := lt p g x b o s' h1 hl
      refine ⟨s.frame b hlt hno, fun hb => ?_⟩
      rcases s.newΦ b hb with e | e | e
      · exact Or.inl e
      · exact absurd e hno
      · omega
  · rcases hM p g x hx with h1 | ⟨h1, h2⟩
    · rcases hM q k y hy with k1 | ⟨k1, k2⟩
      · exact s.rel.inj p g x q k y b o s1 o2 s2 h1 k1 m1 m2
      · exact (apart p g x q k y b o s1 o2 s2 h1 k1 k2 m1 m2).elim
    · rcases hM q k y hy with k1 | ⟨k1, k2⟩
      · exact (apart q k y p g x b o2 s2 o s1 k1 h1 h2 m2 m1).elim
      · rw [mu p g x h1] at m1
        rw [mu q k y k1] at m2
        exact hr.inj p g x q k y b o s1 o2 s2 h1 k1 m1 m2
  · rcases s.newΦ b hb with e | e | e
    · exact Or.inl e
    · exact Or.inr (Or.inl (sub b e))
    · exact Or.inr (Or.inr e)
  · obtain ⟨p, g, x, o, s', h1, m1⟩ := hb
    rcases hM p g x h1 with k1 | ⟨k1, k2⟩
    · exact (s.own b ⟨p, g, x, o, s', k1, m1⟩).imp (sub b) id
    · rw [mu p g x k1] at m1
      exact Or.inl ⟨p, g, x, o, s', k1, m1⟩

theorem Owned.lt {X : Ctx} {B b : Nat} {h : Heap} (hr : HRel X B h) (ho : Owned X h b) : b < X.w.heap.size := by
  obtain ⟨p, g, x, o, s, h1, h2⟩ := ho
  have := (hr.ob p g x h1).2
  rw [h2] at this
  exact ObRel.lt this

theorem sim_newKey {X : Ctx} {B : Nat} {h : Heap} (hr : HRel X B h) {p : List Nat} {g s o : Nat} {x : Ob} {ob : Obj} (hg : ¬ X.u g)
    (hx : ObRel (X.newKey p g o s ob) B (some (.blk X.w.heap.size o s)) x) : Sim B X (X.newKey p g o s ob) h (h.upd p g (some x)) := by
  refine ⟨grow_newKey hr hg, hrel_newKey hr hg hx, fun b hb _ => alloc_old hb, fun b hb => Or.inl hb, fun b hb => ?_⟩
  obtain ⟨q, k, y, o', s', h1, h2⟩ := hb
  rcases upd_of h1 with ⟨rfl, rfl, hh⟩ | ⟨hne, hh⟩
  · have : (X.newKey q k o s ob).μ q k = some (.blk X.w.heap.size o s) := by simp [Ctx.newKey, Mu.upd]
    rw [this] at h2
    simp only [Option.some.injEq, Loc.blk.injEq] at h2
    exact Or.inr (by omega)
  · rw [(grow_newKey (o := o) (s := s) (ob := ob) hr hg).ext.μ q k (hr.ob q k y hh).1] at h2
    exact Or.inl ⟨q, k, y, o', s', hh, h2⟩
theorem sim_newVirt {X : Ctx} {B : Nat} {h : Heap} (hr : HRel X B h) {p : List Nat} {g : Nat} (hg : ¬ X.u g) : Sim B X (X.newVirt p g) h (h.upd p g (some ⟨false, .row []⟩)) := by
  refine ⟨grow_newVirt hg, hrel_newVirt hr hg, fun b hb _ => rfl, fun b hb => Or.inl hb, fun b hb => ?_⟩
  obtain ⟨q, k, y, o', s', h1, h2⟩ := hb
  rcases upd_of h1 with ⟨rfl, rfl, hh⟩ | ⟨hne, hh⟩
  · have : (X.newVirt q k).μ q k = some .virt := by simp [Ctx.newVirt, Mu.upd]
    rw [this] at h2; cases h2
  · rw [(grow_newVirt (B := B) hg).ext.μ q k (hr.ob q k y hh).1] at h2
    exact Or.inl ⟨q, k, y, o', s', hh, h2⟩
theorem sim_newΦ {X : Ctx} {B : Nat} {h : Heap} (hr : HRel X B h) {ob : Obj} : Sim B X (X.newΦ ob) h h :=
  ⟨grow_newΦ hr, hrel_newΦ hr, fun b hb _ => alloc_old hb, fun b hb => hb.imp id (fun e => Or.inr (Nat.le_of_eq e.symm)), fun b hb => Or.inl hb⟩

/-- A block that is written. -/
def Ctx.setB (X : Ctx) (b : Nat) (ob : Obj) : Ctx := { X with w := Pv.setB X.w b ob }
theorem setB_other {w : World} {b k : Nat} {o : Obj} (h : k ≠ b) : (setB w b o).heap[k]? = w.heap[k]? := by rw [setB_heap, if_neg (fun hh => h hh.1)]
theorem setB_self {w : World} {b : Nat} {o o' : Obj} (h : w.heap[b]? = some o') : (setB w b o).heap[b]? = some o := by rw [setB_heap, if_pos ⟨rfl, lt_of_heap h⟩]
theorem grow_setB {X : Ctx} {B b : Nat} {ob : Obj} (hB : B ≤ b) (hΦ : ¬ X.Φ b) (hroom : ∀ n, room X.w b n → room (setB X.w b ob) b n) : Grow B X (X.setB b ob) := by
  refine ⟨⟨fun _ hb => hb, fun _ hk => hk, fun q k hk => rfl, fun c hc => setB_other (by rintro rfl; exact hΦ hc), fun c n hc => ?_⟩, ⟨rfl, rfl, rfl, by simp [Ctx.setB], fun k hk => setB_other (by omega)⟩, fun _ hb => Or.inl hb⟩
  by_cases hcb : c = b
  · subst hcb; exact hroom n hc
  · obtain ⟨cs, el, f, h1, h2⟩ := hc
    exact ⟨cs, el, f, (setB_other hcb).trans h1, h2⟩
theorem sim_setB {X : Ctx} {B b : Nat} {h : Heap} (hr : HRel X B h) {p : List Nat} {g o s : Nat} {x y : Ob} {ob : Obj} (hx : h p g = some x) (hm : X.μ p g = some (.blk b o s)) (hB : B ≤ b) (hΦ : ¬ X.Φ b)
    (hroom : ∀ n, room X.w b n → room (setB X.w b ob) b n) (hy : ObRel (X.setB b ob) B (some (.blk b o s)) y) : Sim B X (X.setB b ob) h (h.upd p g (some y)) := by
  have hG := grow_setB (X := X) (B := B) hB hΦ hroom
  refine ⟨hG, ⟨fun q k z hz => ?_, fun q k z q' k' z' c o1 s1 o2 s2 hz hz' m1 m2 => ?_, fun c hc => ?_, ?_⟩, fun c hc hn => setB_other ?_, fun c hc => Or.inl hc, fun c hc => ?_⟩
  · rcases upd_of hz with ⟨rfl, rfl, hh⟩ | ⟨hne, hh⟩
    · simp only [Option.some.injEq] at hh; subst hh
      refine ⟨(hr.ob q k x hx).1, ?_⟩
      show ObRel (X.setB b ob) B (X.μ q k) y
      rw [hm]; exact hy
    · obtain ⟨k1, k2⟩ := hr.ob q k z hh
      refine ⟨k1, ObRel.mono hG.ext (fun c o' s' hl => ⟨setB_other ?_, Or.inl⟩) k2⟩
      rintro rfl
      obtain ⟨rfl, rfl⟩ := hr.inj q k z p g x c o' s' o s hh hx hl hm
      exact hne ⟨rfl, rfl⟩
  · have e1 : ∃ z0, h q k = some z0 := by
      rcases upd_of hz with ⟨rfl, rfl, hh⟩ | ⟨hne, hh⟩
      · exact ⟨x, hx⟩
      · exact ⟨z, hh⟩
    have e2 : ∃ z0, h q' k' = some z0 := by
      rcases upd_of hz' with ⟨rfl, rfl, hh⟩ | ⟨hne, hh⟩
      · exact ⟨x, hx⟩
      · exact ⟨z', hh⟩
    obtain ⟨z0, e1⟩ := e1
    obtain ⟨z1, e2⟩ := e2
    exact hr.inj q k z0 q' k' z1 c o1 s1 o2 s2 e1 e2 m1 m2
  · have := hr.old c hc
    simpa [Ctx.setB] using this
  · have := hr.base
    simpa [Ctx.setB] using this
  · rintro rfl
    exact hn ⟨p, g, x, o, s, hx, hm⟩
  · obtain ⟨q, k, z, o', s', h1, h2⟩ := hc
    rcases upd_of h1 with ⟨rfl, rfl, hh⟩ | ⟨hne, hh⟩
    · exact Or.inl ⟨q, k, x, o', s', hx, h2⟩
    · exact Or.inl ⟨q, k, z, o', s', hh, h2⟩
end Go.Pv
/- Operations that make blocks. Conditions: as each lemma says. -/
namespace Go.Pv
open Go.RowKit

theorem run_newObj {P : Program} (o : Obj) (w : World) : (newObj o).run P w = .ok w.heap.size (alloc w o) := by
  simp only [newObj, Sem.run]; rfl
theorem run_newRow {P : Program} (el : TypeId) (cs : Array Value) (w : World) : (newRow el cs).run P w = .ok ⟨w.heap.size, 0, none⟩ (alloc w (.cells cs el)) := by
  simp only [newRow, run_bind, run_newObj, run_pure]
theorem rowC_one {X : Ctx} {v : V} {x : Value} (h : RelV X v x) (hs : v.still = true) : RowC X x.cells v.ncells [v] 0 :=
  ⟨⟨x, h, hs, size_rel h hs, fun y hy => relCsV_sc (cells_rel h hs) y hy, fun j v hv => by rw [Nat.zero_add, ← Array.getElem?_toList]; exact hv⟩, trivial⟩
theorem obRel_row {X Y : Ctx} {B b s o : Nat} {cs : Array Value} {el : TypeId} {es : List V} {fz : Bool} (hX : Ext X Y) (hp : o + es.length * s ≤ cs.size) (hB : B ≤ b) (hb : Y.w.heap[b]? = some (.cells cs el)) (hΦ : ¬ Y.Φ b)
    (h : RowC X cs s es o) : ObRel Y B (some (.blk b o s)) ⟨fz, .row es⟩ :=
  ⟨⟨cs, el, (0, 0), hb, hp⟩, hB, fun hh => absurd hh hΦ, RowC.row hX hb h, cs, el, (0, 0), hb, fun _ j _ => by simp⟩

/-- What making a block comes to. -/
def MakesB (P : Program) (B : Nat) (X : Ctx) (p : List Nat) (g : Nat) (h : Heap) (oc : Oc) (v : V) (s : Sem Next) : Prop :=
  ∃ Y x, s.run P X.w = .ok (.value x) Y.w ∧ Grow B X Y ∧ RelV Y v x ∧ Sim B X Y h (h.upd p g (some ⟨false, oc⟩)) ∧ ∀ k, Y.u k ↔ (X.u k ∨ k = g)

theorem mu_newKey (X : Ctx) (p : List Nat) (g o s : Nat) (ob : Obj) : (X.newKey p g o s ob).μ p g = some (.blk X.w.heap.size o s) := by simp [Ctx.newKey, Mu.upd]
theorem mu_newVirt (X : Ctx) (p : List Nat) (g : Nat) : (X.newVirt p g).μ p g = some .virt := by simp [Ctx.newVirt, Mu.upd]
theorem not_Φ_new {X : Ctx} {B : Nat} {h : Heap} (hr : HRel X B h) : ¬ X.Φ X.w.heap.size := fun hh => Nat.lt_irrefl _ (hr.old _ hh)

theorem newVar_sim {P : Program} {X : Ctx} {B : Nat} {h : Heap} {p : List Nat} {g : Nat} {v : V} {x : Value} {el : TypeId} (hr : HRel X B h) (hg : ¬ X.u g) (hv : RelV X v x) (hs : v.still = true) :
    MakesB P B X p g h (.row [v]) (.ref p g 0 0) (do pure (.value (.pointer (some (← newVar el x))))) := by
  refine ⟨X.newKey p g 0 v.ncells (.cells x.cells el), .pointer (some ⟨X.w.heap.size, 0, none⟩), ?_, grow_newKey hr hg, ?_, ?_, fun k => Iff.rfl⟩
  · simp only [run_bind, newVar, run_newRow, run_pure]; rfl
  · simp only [RelV]
    refine ⟨Or.inr rfl, _, rfl, fun b o' sz hm => ?_⟩
    rw [mu_newKey] at hm
    simp only [Option.some.injEq, Loc.blk.injEq] at hm
    obtain ⟨rfl, rfl, rfl⟩ := hm
    simp
  · refine sim_newKey hr hg (obRel_row (el := el) (grow_newKey hr hg).ext (by have := size_rel hv hs; simp; omega) hr.base ?_ (not_Φ_new hr) (rowC_one hv hs))
    show (alloc X.w _).heap[X.w.heap.size]? = _
    rw [alloc_heap, if_pos rfl]

theorem zero_mod (zs : Array Value) (n k : Nat) (h : k < n * zs.size) : ((Array.range (n * zs.size)).map (zs[· % zs.size]!))[k]? = zs[k % zs.size]? := by
  have hp : 0 < zs.size := by
    rcases Nat.eq_zero_or_pos zs.size with h0 | h0
    · rw [h0] at h; simp at h
    · exact h0
  have hm := Nat.mod_lt k hp
  rw [Array.getElem?_map, Array.getElem?_range]
  rw [if_pos h]
  simp [hm]
theorem rowC_zeros {X : Ctx} {z : V} {x : Value} (hz : RelV X z x) (hs : z.still = true) (cs : Array Value) : ∀ (n k : Nat), (∀ j, k * x.cells.size ≤ j → j < (k + n) * x.cells.size → cs[j]? = x.cells[j % x.cells.size]?) → RowC X cs x.cells.size (List.replicate n z) (k * x.cells.size)
  | 0, _, _ => trivial
  | n + 1, k, h => by
    refine ⟨⟨x, hz, hs, rfl, fun y hy => relCsV_sc (cells_rel hz hs) y hy, fun j v hv => ?_⟩, ?_⟩
    · have hlt : j < x.cells.toList.length := (List.getElem?_eq_some_iff.1 hv).1
      simp only [Array.length_toList] at hlt
      rw [h _ (by omega) (by rw [Nat.add_mul, Nat.succ_mul]; omega)]
      rw [Nat.add_comm, Nat.add_mul_mod_self_right, Nat.mod_eq_of_lt hlt, ← Array.getElem?_toList]
      exact hv
    · have := rowC_zeros hz hs cs n (k + 1) (fun j h1 h2 => h j (by rw [Nat.succ_mul] at h1; omega) (by rw [show k + (n + 1) = k + 1 + n from by omega]; exact h2))
      rw [Nat.succ_mul] at this
      exact this

theorem alloc_sim {P : Program} {X : Ctx} {B : Nat} {h : Heap} {p : List Nat} {g : Nat} {o : Oper} {ts : Tmps} {a : Act} {oc : Oc} {mk : List Nat → Nat → V} (hT : TRel X ts a) (hr : HRel X B h) (hg : ¬ X.u g)
    (hassign : ∀ x, o.op = .assign x → x = .const (.slice none 0 0)) (hv : allocOp P (opd ts) o.type o.op = some (oc, mk)) : MakesB P B X p g h oc (mk p g) (execOp a.eval o) := by
  obtain ⟨dst, op, type, pos, after, guard⟩ := o
  simp only at hv hassign ⊢
  cases op with
  | assign x =>
    have := hassign x rfl; subst this
    simp only [allocOp] at hv
    split at hv
    · next e he =>
      simp only [Option.some.injEq, Prod.mk.injEq] at hv
      obtain ⟨rfl, rfl⟩ := hv
      refine ⟨X.newVirt p g, .slice none 0 0, rfl, grow_newVirt hg, ?_, sim_newVirt hr hg, fun k => Iff.rfl⟩
      simp only [RelV]
      refine ⟨Or.inr rfl, none, 0, rfl, Nat.le_refl _, fun hh => absurd hh (Nat.lt_irrefl _), fun _ => rfl, fun b o' s hm => ?_⟩
      rw [mu_newVirt] at hm; cases hm
    · cases hv
  | alloc t =>
    simp only [allocOp] at hv
    split at hv
    · next z hz =>
      split at hv
      · next hc =>
        simp only [Option.some.injEq, Prod.mk.injEq] at hv
        obtain ⟨rfl, rfl⟩ := hv
        obtain ⟨x, h1, h2⟩ := run_zero (X := X) hz X.w
        obtain ⟨Y, y, q1, q2⟩ := newVar_sim (P := P) (p := p) (el := t) hr hg h2 hc.2
        refine ⟨Y, y, ?_, q2⟩
        simp only [execOp, Instr.alloc, run_bind, h1, newVar, run_newRow, run_pure] at q1 ⊢
        exact q1
      · cases hv
    · cases hv
  | box t x =>
    simp only [allocOp] at hv
    split at hv
    · next hc =>
      simp only [Option.some.injEq, Prod.mk.injEq] at hv
      obtain ⟨rfl, rfl⟩ := hv
      obtain ⟨Y, y, q1, q2⟩ := newVar_sim (P := P) (p := p) (el := t) hr hg (opd_rel hT x) hc.1
      refine ⟨Y, y, ?_, q2⟩
      simp only [execOp, Instr.box, run_bind, newVar, run_newRow, run_pure] at q1 ⊢
      exact q1
    · cases hv
  | makeSlice t l c =>
    simp only [allocOp] at hv
    split at hv
    · next e k n k' m he hl hcc =>
      split at hv
      · next z hz =>
        split at hv
        · next hc =>
          obtain ⟨rfl, h0, hmax, hby, hzn, hzp, hzs⟩ := hc
          simp only [Option.some.injEq, Prod.mk.injEq] at hv
          obtain ⟨rfl, rfl⟩ := hv
          have hu := elemT_spec he
          obtain ⟨i, zv, hi, hiz, rfl⟩ := zeroV_spec hz
          have hzrel := ofValue_rel X zv
          have hsz := size_rel hzrel hzs
          have hrl := opd_rel hT l
          rw [hl] at hrl
          have el := rel_int hrl
          have hrc := opd_rel hT c
          rw [hcc] at hrc
          have ec := rel_int hrc
          obtain ⟨nn, rfl⟩ := Int.eq_ofNat_of_zero_le h0
          have hb : (P.bytesOf e : Nat) = i.bytes := by simp [Program.bytesOf, hi]
          have his : zv.cells.size = i.size := by rw [hsz, hzn]; simp [sz, Program.cellsOf, hi]
          have hbm : P.bytesOf e * nn ≤ 1024 * nn := Nat.mul_le_mul_right nn hby
          have hbt : (i.bytes : Int) * (nn : Int) ≤ 281474976710656 := by
            have : ((i.bytes * nn : Nat) : Int) ≤ 281474976710656 := by rw [← hb]; omega
            rwa [Int.natCast_mul] at this
          have hrun := run_make (P := P) X.w t e i zv hu hi hiz k k' nn nn h0 (Int.le_refl _) hbt (by omega)
          simp only [Int.toNat_natCast] at hrun
          let cells : Array Value := (Array.range (nn * zv.cells.size)).map (zv.cells[· % zv.cells.size]!)
          refine ⟨X.newKey p g 0 (sz P e) (.cells cells e), .slice (some ⟨X.w.heap.size, 0, none⟩) nn nn, ?_, grow_newKey hr hg, ?_, ?_, fun k => Iff.rfl⟩
          · simp only [execOp, el, ec, run_bind, hrun, run_pure, ← his]
            rfl
          · simp only [RelV]
            refine ⟨Or.inr rfl, some ⟨X.w.heap.size, 0, none⟩, nn, by simp, by simp, fun _ => ⟨_, rfl⟩, fun hm => ?_, fun b o' s hm => ?_⟩
            · rw [mu_newKey] at hm; cases hm
            · rw [mu_newKey] at hm
              simp only [Option.some.injEq, Loc.blk.injEq] at hm
              obtain ⟨rfl, rfl, rfl⟩ := hm
              refine ⟨rfl, Or.inr ⟨by simp, cells, e, (0, 0), ?_, ?_⟩⟩
              · show (alloc X.w _).heap[X.w.heap.size]? = _
                rw [alloc_heap, if_pos rfl]
              · simp [cells, ← hzn, hsz]
          · refine sim_newKey hr hg (obRel_row (el := e) (cs := cells) (grow_newKey hr hg).ext (by simp [cells, ← hzn, hsz]) hr.base ?_ (not_Φ_new hr) ?_)
            · show (alloc X.w _).heap[X.w.heap.size]? = _
              rw [alloc_heap, if_pos rfl]
            · have := rowC_zeros hzrel hzs cells nn 0 (fun j _ hj => zero_mod _ _ _ (by simpa using hj))
              rw [hsz, hzn] at this
              simpa using this
        · cases hv
      · cases hv
    · cases hv
  | makeMap t r =>
    cases r with
    | some r => simp [allocOp] at hv
    | none =>
    simp only [allocOp] at hv
    split at hv
    · next kt e hu =>
      split at hv
      · next k hk =>
        simp only [Option.some.injEq, Prod.mk.injEq] at hv
        obtain ⟨rfl, rfl⟩ := hv
        refine ⟨X.newKey p g 0 0 (.map #[] 0), .map (some X.w.heap.size), ?_, grow_newKey hr hg, ?_, ?_, fun k => Iff.rfl⟩
        · simp only [execOp, Instr.makeMap, run_bind, run_newObj, run_pure]; rfl
        · simp only [RelV]
          refine ⟨Or.inr rfl, _, rfl, fun b o' s hm => ?_⟩
          rw [mu_newKey] at hm
          simp only [Option.some.injEq, Loc.blk.injEq] at hm
          exact hm.1
        · refine sim_newKey hr hg ⟨hr.base, not_Φ_new hr, #[], 0, ?_, ?_⟩
          · show (alloc X.w _).heap[X.w.heap.size]? = _
            rw [alloc_heap, if_pos rfl]
          · exact ⟨by simp, fun n => by simp [findI]⟩
      · cases hv
    · cases hv
  | range t x =>
    simp only [allocOp] at hv
    split at hv
    · next s hx =>
      split at hv
      · next hs =>
        simp only [Option.some.injEq, Prod.mk.injEq] at hv
        obtain ⟨rfl, rfl⟩ := hv
        have hu := isStr_spec hs
        have hrx := opd_rel hT x
        rw [hx] at hrx
        have ex := rel_str hrx
        refine ⟨X.newKey p g 0 0 (.stringIter s 0), .pointer (some ⟨X.w.heap.size, 0, none⟩), ?_, grow_newKey hr hg, ?_, ?_, fun k => Iff.rfl⟩
        · simp only [execOp, Instr.range, ex, run_bind, run_underlying hu, run_newObj, run_pure]; rfl
        · simp only [RelV]
          refine ⟨Or.inr rfl, _, _, rfl, fun b o' s hm => ?_⟩
          rw [mu_newKey] at hm
          simp only [Option.some.injEq, Loc.blk.injEq] at hm
          exact hm.1
        · refine sim_newKey hr hg ⟨hr.base, not_Φ_new hr, ?_⟩
          show (alloc X.w _).heap[X.w.heap.size]? = _
          rw [alloc_heap, if_pos rfl]
      · cases hv
    · cases hv
  | _ => simp [allocOp] at hv
end Go.Pv
/- Reading memory: loads and lookups. Conditions: as each lemma says. -/
namespace Go.Pv
open Go.RowKit

theorem sureAddr_run {P : Program} (ad : Addr) (w : World) : (Instr.sureAddr (.pointer (some ad))).run P w = .ok ad w := rfl

theorem rowAt_spec {h : Heap} {p : List Nat} {g : Nat} {es : List V} (hr : rowAt h p g = some es) : ∃ fz, h p g = some ⟨fz, .row es⟩ := by
  unfold rowAt at hr
  split at hr
  · next fz es' h' => simp only [Option.some.injEq] at hr; subst hr; exact ⟨fz, h'⟩
  · cases hr
theorem rowW_spec {h : Heap} {p : List Nat} {g : Nat} {es : List V} (hr : rowW h p g = some es) : h p g = some ⟨false, .row es⟩ := by
  unfold rowW at hr
  split at hr
  · next es' h' => simp only [Option.some.injEq] at hr; subst hr; exact h'
  · cases hr
/-- A row's place in memory. -/
theorem row_place {X : Ctx} {B : Nat} {h : Heap} (hr : HRel X B h) {p : List Nat} {g i : Nat} {fz : Bool} {es : List V} {e : V} (hx : h p g = some ⟨fz, .row es⟩) (hi : es[i]? = some e) :
    ∃ b o s, X.μ p g = some (.blk b o s) ∧ room X.w b (o + es.length * s) ∧ B ≤ b ∧ (X.Φ b → fz = true) ∧ RowV X b s es o ∧ ∃ cs el f, X.w.heap[b]? = some (.cells cs el f) ∧ (fz = false → ∀ j, j < cs.size → ¬ (f.1 ≤ j ∧ j < f.2)) := by
  have h2 := (hr.ob p g _ hx).2
  cases hl : X.μ p g with
  | none => rw [hl] at h2; exact h2.elim
  | some l =>
    rw [hl] at h2
    cases l with
    | virt => simp only [ObRel] at h2; subst h2; cases hi
    | blk b o s => exact ⟨b, o, s, rfl, h2⟩

theorem scs_still {X : Ctx} {v : V} {x : Value} (h : RelV X v x) (hc : ∀ y ∈ x.cells.toList, Sc y) : True := trivial

theorem readV_sim {P : Program} {X : Ctx} {B : Nat} {h : Heap} (hr : HRel X B h) {t : TypeId} {x v : V} {y : Value} (hx : RelV X x y) (hv : readV P h t x = some v) :
    ∃ r, (Instr.loadAt t y).run P X.w = .ok r X.w ∧ RelV X v r := by
  unfold readV at hv
  split at hv
  · next agg hk =>
    split at hv
    · next p g i o =>
      split at hv
      · next es hes =>
        split at hv
        · next e he =>
          obtain ⟨fz, hob⟩ := rowAt_spec hes
          obtain ⟨b, o', s, hm, _, _, _, hrow, _⟩ := row_place hr hob he
          simp only [RelV] at hx
          obtain ⟨_, ad, rfl, had⟩ := hx
          have := had b o' s hm; subst this
          obtain ⟨z, h1, h2, h3, h4, h5⟩ := rowV_get hrow he
          obtain ⟨r, q1, q2⟩ := part_rel h1 h2 h5 hk hv
          exact ⟨r, by simp only [Instr.loadAt, run_bind, sureAddr_run, q1], q2⟩
        · cases hv
      · cases hv
    · next x o =>
      split at hv
      · next hs =>
        simp only [RelV] at hx
        obtain ⟨b, o', rfl, _, z, h1, _, h5⟩ := hx
        obtain ⟨r, q1, q2⟩ := part_rel h1 hs h5 hk hv
        exact ⟨r, by simp only [Instr.loadAt, run_bind, sureAddr_run, q1], q2⟩
      · cases hv
    · cases hv
  · cases hv

theorem findNow_none {k : IntKind} {n : Int} : ∀ (l : List MapEntry) (i : Nat), (∀ e ∈ l, ∃ m, e.key = .int k m) → (∀ e ∈ l, e.key ≠ .int k n) → Instr.findNow (.int k) (.int k n) l i = some none
  | [], _, _, _ => rfl
  | e :: l, i, h, h' => by
    obtain ⟨m, hm⟩ := h e (by simp)
    have hne := h' e (by simp)
    rw [hm] at hne
    have : (n == m) = false := by
      simp only [beq_eq_false_iff_ne, ne_eq]
      rintro rfl; exact hne rfl
    simp only [Instr.findNow, hm, Instr.sameNow, if_true, this]
    exact findNow_none l (i + 1) (fun e he => h e (by simp [he])) (fun e he => h' e (by simp [he]))
theorem findNow_some {k : IntKind} {n : Int} : ∀ (l : List MapEntry) (i j : Nat) (e : MapEntry), (∀ e ∈ l, ∃ m, e.key = .int k m) → l[j]? = some e → e.key = .int k n → (∀ j', j' < j → ∀ e' : MapEntry, l[j']? = some e' → e'.key ≠ .int k n) →
    Instr.findNow (.int k) (.int k n) l i = some (some (i + j, e.val))
  | [], _, _, _, _, h, _, _ => by cases h
  | e0 :: l, i, 0, e, h, h1, h2, h3 => by
    simp only [List.getElem?_cons_zero, Option.some.injEq] at h1
    subst h1
    simp [Instr.findNow, h2, Instr.sameNow]
  | e0 :: l, i, j + 1, e, h, h1, h2, h3 => by
    obtain ⟨m, hm⟩ := h e0 (by simp)
    have hne := h3 0 (by omega) e0 rfl
    rw [hm] at hne
    have : (n == m) = false := by
      simp only [beq_eq_false_iff_ne, ne_eq]
      rintro rfl; exact hne rfl
    simp only [Instr.findNow, hm, Instr.sameNow, if_true, this]
    rw [findNow_some l (i + 1) j e (fun e he => h e (by simp [he])) (by simpa using h1) h2 (fun j' hj e' he' => h3 (j' + 1) (by omega) e' (by simpa using he'))]
    congr 3
    omega

theorem map_place {X : Ctx} {B : Nat} {h : Heap} (hr : HRel X B h) {p : List Nat} {g : Nat} {fz : Bool} {k : IntKind} {es : List (Int × V)} (hx : h p g = some ⟨fz, .mp k es⟩) :
    ∃ b o s, X.μ p g = some (.blk b o s) ∧ B ≤ b ∧ ¬ X.Φ b ∧ ∃ l clock, X.w.heap[b]? = some (.map l clock) ∧ MapRel X es k l.toList := by
  have h2 := (hr.ob p g _ hx).2
  cases hl : X.μ p g with
  | none => rw [hl] at h2; exact h2.elim
  | some l =>
    rw [hl] at h2
    cases l with
    | virt => exact h2.elim
    | blk b o s => exact ⟨b, o, s, rfl, h2⟩

theorem load_sim {P : Program} {X : Ctx} {B : Nat} {h : Heap} {o : Oper} {ts : Tmps} {a : Act} {v : V} (hT : TRel X ts a) (hr : HRel X B h) (hv : loadOp P h (opd ts) o.op = some v) :
    ∃ r, (execOp a.eval o).run P X.w = .ok (.value r) X.w ∧ RelV X v r := by
  obtain ⟨dst, op, type, pos, after, guard⟩ := o
  simp only at hv ⊢
  cases op with
  | load t x =>
    obtain ⟨r, h1, h2⟩ := readV_sim hr (opd_rel hT x) hv
    exact ⟨r, run_v h1, h2⟩
  | lookup t x i ok =>
    simp only [loadOp] at hv
    split at hv
    · next kt e hu =>
      split at hv
      · next p g j n j' z hx hi hk hz =>
        split at hv
        · next fz k' es hob =>
          split at hv
          · next hj =>
            obtain ⟨rfl, rfl⟩ := hj
            obtain ⟨b, o', s, hm, _, _, l, clock, hl, hkeys, hrel⟩ := map_place hr hob
            have rx := opd_rel hT x
            rw [hx] at rx
            simp only [RelV] at rx
            obtain ⟨_, r, ex, hr'⟩ := rx
            have := hr' b o' s hm; subst this
            have ri := opd_rel hT i
            rw [hi] at ri
            have ei := rel_int ri
            have hkd := intT_spec hk
            have hik : MapKept.IsKey (.int k') (.int k' n) := by simp [MapKept.IsKey]
            obtain ⟨zv, z1, z2⟩ := run_zero (X := X) hz X.w
            have hf := hrel n
            cases hfi : findI n es with
            | some w =>
              rw [hfi] at hf hv
              simp only [Option.some.injEq] at hv
              obtain ⟨en, q, g1, g2, g3, g4⟩ := hf
              have hfn := findNow_some l.toList 0 q en hkeys g1 g2 g3
              refine ⟨if ok then .tuple #[en.val, .bool true] else en.val, run_v ?_, ?_⟩
              · simp only [Instr.lookup, run_bind, run_underlying hu, ex, ei, MapKept.run_getObj_map hl, run_pure]
                rw [MapKept.run_checkKey hkd hik]
                simp only [MapKept.run_findKey hkd hfn, run_pure, run_bind]
              · subst hv
                cases ok
                · simpa using g4
                · simp only [if_true, RelV]
                  exact ⟨_, rfl, by simp [RelVs, RelV, RelT]; exact g4⟩
            | none =>
              rw [hfi] at hf hv
              simp only [Option.some.injEq] at hv
              have hfn := findNow_none (k := k') l.toList 0 hkeys hf
              refine ⟨if ok then .tuple #[zv, .bool false] else zv, run_v ?_, ?_⟩
              · simp only [Instr.lookup, run_bind, run_underlying hu, ex, ei, MapKept.run_getObj_map hl, run_pure]
                rw [MapKept.run_checkKey hkd hik]
                simp only [MapKept.run_findKey hkd hfn, run_pure, run_bind, z1]
              · subst hv
                cases ok
                · simpa using z2
                · simp only [if_true, RelV]
                  exact ⟨_, rfl, by simp [RelVs, RelV, RelT]; exact z2⟩
          · cases hv
        · cases hv
      · cases hv
    · cases hv
  | _ => simp [loadOp] at hv
end Go.Pv
/- Writing memory: stores, map entries, iterators. Conditions: as each lemma says. -/
namespace Go.Pv
open Go.RowKit

theorem splice_full {α : Type} {cs ns : List α} (h : cs.length = ns.length) : splice cs 0 ns = ns := by
  simp [splice, ← h]

theorem setPart_rel {X : Ctx} {e v e' : V} {x y : Value} {o : Nat} (h : RelV X e x) (hs : e.still = true) (hy : RelV X v y) (hvs : v.still = true) (hv : e.setPart o v = some e') :
    ∃ x', RelV X e' x' ∧ e'.still = true ∧ x'.cells.toList = splice x.cells.toList o y.cells.toList ∧ o + y.cells.size ≤ x.cells.size := by
  have h1 := cells_rel h hs
  have h2 := cells_rel hy hvs
  have s1 := size_rel h hs
  have s2 := size_rel hy hvs
  unfold V.setPart at hv
  split at hv
  · next hc =>
    obtain ⟨rfl, hn, _⟩ := hc
    simp only [Option.some.injEq] at hv; subst hv
    exact ⟨y, hy, hvs, (splice_full (by simp; omega)).symm, by omega⟩
  · split at hv
    · next hc =>
      simp only [Option.some.injEq] at hv; subst hv
      refine ⟨.agg (splice x.cells.toList o y.cells.toList).toArray, ?_, rfl, by simp [Value.cells], by omega⟩
      simp only [RelV]
      exact ⟨_, rfl, by simpa using relCsV_splice h1 h2⟩
    · cases hv

theorem splice_get {α : Type} {cs ns : List α} {o : Nat} (h : o + ns.length ≤ cs.length) (j : Nat) : (splice cs o ns)[j]? = if o ≤ j ∧ j < o + ns.length then ns[j - o]? else cs[j]? := by
  unfold splice
  have ht : (cs.take o).length = o := by rw [List.length_take]; omega
  by_cases h1 : j < o
  · rw [if_neg (by omega), List.append_assoc, List.getElem?_append_left (by omega), List.getElem?_take, if_pos h1]
  · by_cases h2 : j < o + ns.length
    · rw [if_pos (by omega), List.append_assoc, List.getElem?_append_right (by omega), ht, List.getElem?_append_left (by omega)]
    · rw [if_neg (by omega), List.append_assoc, List.getElem?_append_right (by omega), ht, List.getElem?_append_right (by omega), List.getElem?_drop]
      congr 1; omega

theorem room_setB {w : World} {b n : Nat} {cs ds : Array Value} {el el' : TypeId} {f f' : Nat × Nat} (h : w.heap[b]? = some (.cells cs el f)) (hs : cs.size ≤ ds.size) (hr : room w b n) : room (setB w b (.cells ds el' f')) b n := by
  obtain ⟨cs', el1, f1, h1, h2⟩ := hr
  rw [h] at h1
  simp only [Option.some.injEq, Obj.cells.injEq] at h1
  obtain ⟨rfl, rfl, rfl⟩ := h1
  exact ⟨ds, el', f', setB_self h, by omega⟩

/-- A row is written. -/
theorem sim_row {X : Ctx} {B b : Nat} {h : Heap} (hr : HRel X B h) {p : List Nat} {g o s : Nat} {es es' : List V} {cs ds : Array Value} {el : TypeId} {f : Nat × Nat} (hx : h p g = some ⟨false, .row es⟩) (hm : X.μ p g = some (.blk b o s)) (hs : o + es'.length * s ≤ ds.size) (hB : B ≤ b) (hΦ : ¬ X.Φ b)
    (hb : X.w.heap[b]? = some (.cells cs el f)) (hf : ∀ j, j < cs.size → ¬ (f.1 ≤ j ∧ j < f.2)) (hsz : ds.size = cs.size) (hrow : RowC X ds s es' o) :
    Sim B X (X.setB b (.cells ds el f)) h (h.upd p g (some ⟨false, .row es'⟩)) := by
  have hroom : ∀ n, room X.w b n → room (setB X.w b (.cells ds el f)) b n := fun n => room_setB hb (by omega)
  refine sim_setB hr hx hm hB hΦ hroom ⟨⟨ds, el, f, setB_self hb, hs⟩, hB, fun hh => absurd hh hΦ, RowC.row (grow_setB hB hΦ hroom).ext (setB_self hb) hrow, ds, el, f, setB_self hb, fun _ j hj => hf j (by omega)⟩

theorem insI_find (k : Int) (x : V) : ∀ (es : List (Int × V)), findI k es = none → ∀ n, findI n (insI k x es) = if n = k then some x else findI n es
  | [], _, n => by simp [insI, findI]
  | (j, v) :: es, h, n => by
    simp only [findI] at h
    split at h
    · cases h
    · next hkj =>
      simp only [insI]
      split
      · simp only [findI]
      · simp only [findI]
        by_cases hnj : n = j
        · have hnk : ¬ n = k := fun e => hkj (e.symm.trans hnj)
          rw [if_pos hnj, if_neg hnk, if_pos hnj]
        · simp only [hnj, if_false]
          exact insI_find k x es h n

theorem mapRel_push {X : Ctx} {es : List (Int × V)} {k : IntKind} {l : List MapEntry} {n : Int} {x : V} {e : MapEntry} (h : MapRel X es k l) (hn : findI n es = none) (hk : e.key = .int k n) (hv : RelV X x e.val) : MapRel X (insI n x es) k (l ++ [e]) := by
  obtain ⟨h1, h2⟩ := h
  have hno := h2 n
  rw [hn] at hno
  refine ⟨fun e' he => ?_, fun m => ?_⟩
  · rcases List.mem_append.1 he with he | he
    · exact h1 e' he
    · simp only [List.mem_singleton] at he; subst he; exact ⟨n, hk⟩
  · rw [insI_find n x es hn m]
    by_cases hmn : m = n
    · subst hmn
      simp only [if_true]
      refine ⟨e, l.length, by simp, hk, fun j hj e' he' => ?_, hv⟩
      rw [List.getElem?_append_left hj] at he'
      exact hno e' (List.mem_of_getElem? he')
    · simp only [hmn, if_false]
      have := h2 m
      cases hf : findI m es with
      | some v =>
        rw [hf] at this
        obtain ⟨e', i, g1, g2, g3, g4⟩ := this
        have hi : i < l.length := (List.getElem?_eq_some_iff.1 g1).1
        refine ⟨e', i, by rw [List.getElem?_append_left hi]; exact g1, g2, fun j hj e'' he'' => g3 j hj e'' ?_, g4⟩
        rwa [List.getElem?_append_left (by omega)] at he''
      | none =>
        rw [hf] at this
        intro e' he'
        rcases List.mem_append.1 he' with he' | he'
        · exact this e' he'
        · simp only [List.mem_singleton] at he'; subst he'
          rw [hk]; intro hh; simp only [Value.int.injEq, true_and] at hh; exact hmn hh.symm

theorem run_storeAt {P : Program} {w : World} {t : TypeId} {b o : Nat} {v : Value} {cs : Array Value} {el : TypeId} {f : Nat × Nat} (hk : (kindT P t).isSome = true) (hsz : v.cells.size = sz P t) (h : w.heap[b]? = some (.cells cs el f))
    (hl : o + v.cells.size ≤ cs.size) (hs : ∀ y ∈ v.cells.toList, Sc y) (hf : ∀ j, j < cs.size → ¬ (f.1 ≤ j ∧ j < f.2)) :
    (Instr.storeAt t (.pointer (some ⟨b, o, none⟩)) v).run P w = .ok () (setB w b (.cells (spl cs o v.cells.toList) el f)) := by
  obtain ⟨k, hk⟩ := Option.isSome_iff_exists.1 hk
  obtain ⟨_, i, hi⟩ := kind_info hk
  have := run_storeCells (P := P) v.cells.toList 0 cs w h (by simpa using hl) hs (fun j h1 h2 => hf j (by simp at h2; omega))
  simp only [Instr.storeAt, run_bind, sureAddr_run, storeVar, run_sizeOf hi, hsz, ne_eq, not_true, if_false]
  simpa using this

theorem store_sim {P : Program} {X : Ctx} {B : Nat} {h h' : Heap} {o : Oper} {ts : Tmps} {a : Act} (hT : TRel X ts a) (hr : HRel X B h) (hv : storeOp P h (opd ts) o.op = some h') :
    ∃ Y, (execOp a.eval o).run P X.w = .ok .skip Y.w ∧ Sim B X Y h h' ∧ ∀ k, Y.u k ↔ X.u k := by
  obtain ⟨dst, op, type, pos, after, guard⟩ := o
  simp only at hv ⊢
  cases op with
  | store t x v =>
    simp only [storeOp] at hv
    split at hv
    · next p g i o hx =>
      split at hv
      · next es hes =>
        split at hv
        · next e he =>
          split at hv
          · next hc =>
            obtain ⟨hvs, hvn, hk⟩ := hc
            split at hv
            · next e' hset =>
              simp only [Option.some.injEq] at hv; subst hv
              have hob := rowW_spec hes
              obtain ⟨b, o', s, hm, hs, hB, hΦ, hrow, cs, el, f, hb, hf⟩ := row_place hr hob he
              have hΦ' : ¬ X.Φ b := fun hh => by cases hΦ hh
              have rx := opd_rel hT x
              rw [hx] at rx
              simp only [RelV] at rx
              obtain ⟨_, ad, ex, had⟩ := rx
              have := had b o' s hm; subst this
              have rv := opd_rel hT v
              have hsv := size_rel rv hvs
              have hrowC := RowC.of_row hb hrow
              obtain ⟨z, h1, h2, h3, h4, h5⟩ := rowV_get hrow he
              obtain ⟨x', q1, q2, q3, q4⟩ := setPart_rel h1 h2 rv hvs hset
              have hil : i < es.length := (List.getElem?_eq_some_iff.1 he).1
              have hfit : o' + i * s + s ≤ cs.size := by
                obtain ⟨cs1, el1, f1, hb1, hs1⟩ := hs
                rw [hb] at hb1
                simp only [Option.some.injEq, Obj.cells.injEq] at hb1
                obtain ⟨rfl, rfl, rfl⟩ := hb1
                have hmul : (i + 1) * s ≤ es.length * s := Nat.mul_le_mul_right _ hil
                rw [Nat.succ_mul] at hmul
                omega
              have hx's : x'.cells.size = s := by
                have := congrArg List.length q3
                rw [splice_len (by simpa using q4)] at this
                simpa [h3] using this
              have hrun := run_storeAt (P := P) (w := X.w) (t := t) (b := b) (o := o' + i * s + o) (v := a.eval v) hk (by rw [hsv, hvn]) hb (by omega) (fun y hy => relCsV_sc (cells_rel rv hvs) y hy) (hf rfl)
              refine ⟨X.setB b (.cells (spl cs (o' + i * s + o) (a.eval v).cells.toList) el f), ?_, sim_row hr hob hm (by obtain ⟨cs1, el1, f1, hb1, hs1⟩ := hs; rw [hb] at hb1; simp only [Option.some.injEq, Obj.cells.injEq] at hb1; obtain ⟨rfl, rfl, rfl⟩ := hb1; simpa using hs1) hB hΦ' hb (hf rfl) (by simp) ?_, fun k => Iff.rfl⟩
              · simp only [execOp, ex, run_bind, hrun, run_pure]
                rfl
              · refine RowC.set hrowC hil q1 q2 hx's (fun y hy => relCsV_sc (cells_rel q1 q2) y hy) (fun j u hj => ?_) (fun k hk => ?_)
                · have hj' : j < s := by have := (List.getElem?_eq_some_iff.1 hj).1; simp at this; omega
                  rw [spl_get _ _ _ _ (by simp; omega)]
                  rw [q3, splice_get (by simpa using q4)] at hj
                  by_cases hin : o ≤ j ∧ j < o + (a.eval v).cells.toList.length
                  · rw [if_pos hin] at hj
                    rw [if_pos (by omega)]
                    rw [show o' + i * s + j - (o' + i * s + o) = j - o from by omega]
                    exact hj
                  · rw [if_neg hin] at hj
                    rw [if_neg (by omega)]
                    obtain ⟨cs', el', f', hb', h5⟩ := h5
                    rw [hb] at hb'
                    simp only [Option.some.injEq, Obj.cells.injEq] at hb'
                    obtain ⟨rfl, rfl, rfl⟩ := hb'
                    exact h5 j u hj
                · rw [spl_get _ _ _ _ (by simp; omega), if_neg ?_]
                  simp only [Array.length_toList]
                  rw [Nat.succ_mul] at hk
                  omega
            · cases hv
          · cases hv
        · cases hv
      · cases hv
    · cases hv
  | insert t m k v =>
    simp only [storeOp] at hv
    split at hv
    · next kt e hu =>
      split at hv
      · next p g j n j' hm' hk' hkt =>
        split at hv
        · next k' es hob =>
          split at hv
          · next hc =>
            obtain ⟨rfl, rfl, hnone, hvs, hvn⟩ := hc
            simp only [Option.some.injEq] at hv; subst hv
            obtain ⟨b, o', s, hm, hB, hΦ, l, clock, hl, hrel⟩ := map_place hr hob
            have rx := opd_rel hT m
            rw [hm'] at rx
            simp only [RelV] at rx
            obtain ⟨_, r, ex, hr'⟩ := rx
            have := hr' b o' s hm; subst this
            have ri := opd_rel hT k
            rw [hk'] at ri
            have ei := rel_int ri
            have hkd := intT_spec hkt
            have hik : MapKept.IsKey (.int k') (.int k' n) := by simp [MapKept.IsKey]
            have hfn : findI n es = none := by simpa using hnone
            have hno := hrel.2 n
            rw [hfn] at hno
            have hfnow := findNow_none (k := k') l.toList 0 hrel.1 hno
            have hroom : ∀ q, room X.w r q → room (setB X.w r (.map (l.push { key := .int k' n, val := a.eval v, born := clock }) (clock + 1))) r q := by
              rintro q ⟨cs, el, f, h1, _⟩
              rw [hl] at h1; cases h1
            refine ⟨X.setB r (.map (l.push { key := .int k' n, val := a.eval v, born := clock }) (clock + 1)), ?_, sim_setB hr hob hm hB hΦ hroom ⟨hB, hΦ, _, _, setB_self hl, ?_⟩, fun k => Iff.rfl⟩
            · simp only [execOp, Instr.mapUpdate, run_bind, run_underlying hu, ex, ei, MapKept.run_getObj_map hl]
              rw [MapKept.run_checkKey hkd hik]
              simp only [MapKept.run_findKey hkd hfnow, MapKept.run_setObj_map _ hl, run_pure, run_bind]
              rfl
            · have hmr : MapRel X (insI n (opd ts v) es) k' (l.push { key := .int k' n, val := a.eval v, born := clock }).toList := by
                rw [Array.toList_push]
                exact mapRel_push hrel hfn rfl (opd_rel hT v)
              refine ⟨hmr.1, fun n' => ?_⟩
              have := hmr.2 n'
              split at this
              · obtain ⟨e', i, g1, g2, g3, g4⟩ := this
                exact ⟨e', i, g1, g2, g3, RelV.mono (grow_setB hB hΦ hroom).ext _ _ g4⟩
              · exact this
          · cases hv
        · cases hv
      · cases hv
    · cases hv
  | _ => simp [storeOp] at hv
end Go.Pv
/- Appends: what is appended, and where it goes. Conditions: as each lemma says. -/
namespace Go.Pv
open Go.RowKit

theorem Sc.one {u : Value} (h : Sc u) : u.oneCell' = true := by cases u <;> simp_all [Sc, Value.oneCell']

theorem T.still_of_sc {Φ : Nat → Prop} {w : World} {t : T} {x : Value} (h : RelT Φ w t x) (hs : ∀ y ∈ x.cells.toList, Sc y) : t.still = true := by
  cases t with
  | tup cs =>
    simp only [RelT] at h
    obtain ⟨vs, rfl, _⟩ := h
    exact absurd (hs (.tuple vs) (by simp [Value.cells])) (by simp [Sc])
  | _ => rfl
theorem relRow_rowV {X : Ctx} {b s : Nat} : ∀ {es : List T} {o : Nat}, RelRow X.Φ X.w b s es o → RowV X b s (es.map .t) o
  | [], _, _ => trivial
  | e :: es, o, h => by
    simp only [RelRow] at h
    obtain ⟨⟨x, h1, h2, h3, h4⟩, h⟩ := h
    simp only [List.map_cons, RowV]
    exact ⟨⟨x, by simpa only [RelV] using h1, T.still_of_sc h1 h3, h2, h3, h4⟩, relRow_rowV h⟩

theorem rowV_cells {X : Ctx} {b s : Nat} : ∀ {es : List V} {o : Nat}, RowV X b s es o →
    ∃ news : List Value, news.length = es.length * s ∧ (∀ j u, news[j]? = some u → X.w.cell? ⟨b, o + j, none⟩ = some u) ∧ (∀ u ∈ news, Sc u) ∧ RowC X news.toArray s es 0
  | [], _, _ => ⟨[], by simp, by simp, by simp, trivial⟩
  | e :: es, o, h => by
    simp only [RowV] at h
    obtain ⟨⟨x, h1, h2, h3, h4, h5⟩, h⟩ := h
    obtain ⟨news, g1, g2, g3, g4⟩ := rowV_cells h
    have hl : x.cells.toList.length = s := by simpa using h3
    refine ⟨x.cells.toList ++ news, ?_, fun j u hj => ?_, fun u hu => ?_, ⟨x, h1, h2, h3, h4, fun j v hv => ?_⟩, ?_⟩
    · simp only [List.length_append, List.length_cons, Nat.succ_mul]; omega
    · by_cases hjs : j < s
      · rw [List.getElem?_append_left (by omega)] at hj
        obtain ⟨cs, el, f, k1, k2⟩ := h5
        rw [cell_of k1]
        exact k2 j u hj
      · rw [List.getElem?_append_right (by omega), hl] at hj
        have := g2 (j - s) u hj
        rwa [show o + s + (j - s) = o + j from by omega] at this
    · rcases List.mem_append.1 hu with hu | hu
      · exact h4 u hu
      · exact g3 u hu
    · have hlt : j < x.cells.toList.length := (List.getElem?_eq_some_iff.1 hv).1
      simp only [List.getElem?_toArray, Nat.zero_add]
      rw [List.getElem?_append_left hlt]; exact hv
    · refine RowC.congr g4 fun j hj => ?_
      simp only [List.getElem?_toArray]
      rw [List.getElem?_append_right (by omega), hl]
      congr 1; omega

theorem byteRow (X : Ctx) : ∀ (l : List UInt8), RowC X (l.map fun b => Value.int .u8 b.toNat).toArray 1 (l.map fun b => V.t (.int .u8 b.toNat)) 0
  | [] => trivial
  | b :: l => by
    refine ⟨⟨.int .u8 b.toNat, int_rel X _ _, rfl, rfl, by simp [Value.cells, Sc], fun j v hv => ?_⟩, ?_⟩
    · cases j with
      | zero => simpa [Value.cells] using hv
      | succ j => simp [Value.cells] at hv
    · refine RowC.congr (byteRow X l) fun j hj => ?_
      simp only [List.map_cons, List.getElem?_toArray]
      rw [show 0 + 1 + j = j + 1 from by omega, show 0 + j = j from by omega]
      simp

theorem RowC.resize {X : Ctx} {cs : Array Value} {s size : Nat} : ∀ {es : List V} {o : Nat}, RowC X cs s es o → es.all (fun v => v.ncells == size && v.still) = true → es = [] ∨ s = size
  | [], _, _, _ => Or.inl rfl
  | e :: es, o, h, ha => by
    obtain ⟨⟨x, h1, h2, h3, _⟩, _⟩ := h
    simp only [List.all_cons, Bool.and_eq_true, beq_iff_eq] at ha
    have := size_rel h1 h2
    exact Or.inr (by omega)

/-- What is appended. -/
theorem elems_src {P : Program} {X : Ctx} {B : Nat} {h : Heap} (hr : HRel X B h) {x : V} {y : Value} {new : List V} {size : Nat} {tx e' : TypeId} (hk : P.underlying tx = some (.slice e')) (hx : RelV X x y) (he : elems h x = some new)
    (ha : new.all (fun v => v.ncells == size && v.still) = true) : ∃ news, Src P size tx y new.length news X.w ∧ RowC X news.toArray size new 0 := by
  have go : ∀ (a : Option Addr) (cap : Nat) (b o s : Nat), (new = [] ∨ a = some ⟨b, o, none⟩ ∧ RowV X b s new o) → y = .slice a new.length cap → ∃ news, Src P size tx y new.length news X.w ∧ RowC X news.toArray size new 0 := by
    intro a cap b o s hh hy
    subst hy
    rcases hh with rfl | ⟨rfl, hrow⟩
    · refine ⟨[], ?_, trivial⟩
      cases a with
      | none => exact Src.ofNil X.w hk cap
      | some a => exact Src.ofSlice X.w hk a 0 cap [] (by simp) (by simp) (by simp)
    · obtain ⟨news, g1, g2, g3, g4⟩ := rowV_cells hrow
      rcases g4.resize ha with rfl | rfl
      · have : news = [] := List.eq_nil_of_length_eq_zero (by simpa using g1)
        subst this
        exact ⟨[], Src.ofSlice X.w hk _ 0 cap [] (by simp) (by simp) (by simp), trivial⟩
      · exact ⟨news, Src.ofSlice X.w hk ⟨b, o, none⟩ new.length cap news g1 (fun j u hj => by rw [add_eq]; exact g2 j u hj) (fun u hu => (g3 u hu).one), g4⟩
  cases x with
  | cap0 =>
    simp only [elems, Option.some.injEq] at he; subst he
    simp only [RelV] at hx
    obtain ⟨a, rfl⟩ := hx
    exact go a 0 0 0 0 (Or.inl rfl) rfl
  | own p g o n s =>
    simp only [elems] at he
    split at he
    · next es hes =>
      split at he
      · next hle =>
        simp only [Option.some.injEq] at he; subst he
        obtain ⟨fz, hob⟩ := rowAt_spec hes
        simp only [RelV] at hx
        obtain ⟨_, a, cap, rfl, hcap, h0, hvirt, hblk⟩ := hx
        have hlen : ((es.drop o).take n).length = n := by rw [List.length_take, List.length_drop]; omega
        by_cases hn : n = 0
        · subst hn
          exact go a cap 0 0 0 (Or.inl (by simp)) (by simp)
        · have hne : ∃ e, es[o]? = some e := ⟨_, List.getElem?_eq_getElem (by omega)⟩
          obtain ⟨e0, hne⟩ := hne
          obtain ⟨b, o', s', hm, _, _, _, hrow, _⟩ := row_place hr hob hne
          obtain ⟨rfl, hh⟩ := hblk b o' s' hm
          rcases hh with hh | ⟨rfl, _⟩
          · omega
          · refine go _ cap b (o' + o * s') s' (Or.inr ⟨rfl, ?_⟩) (by rw [hlen])
            exact rowV_take n (rowV_drop o hrow)
      · cases he
    · cases he
  | t x =>
    cases x with
    | vec l =>
      simp only [elems, Option.some.injEq] at he; subst he
      simp only [RelV, RelT] at hx
      obtain ⟨a, cap, rfl, hcap, hh⟩ := hx
      rcases hh with rfl | ⟨b, o, s, rfl, _, hrow⟩
      · exact go a cap 0 0 0 (Or.inl rfl) (by simp)
      · exact go _ cap b o s (Or.inr ⟨rfl, relRow_rowV hrow⟩) (by simp)
    | _ => simp [elems] at he
  | vec l =>
    simp only [elems, Option.some.injEq] at he; subst he
    simp only [RelV] at hx
    obtain ⟨a, rfl, hh⟩ := hx
    rcases hh with rfl | ⟨b, o, s, rfl, _, hrow⟩
    · exact go a _ 0 0 0 (Or.inl rfl) rfl
    · exact go _ _ b o s (Or.inr ⟨rfl, hrow⟩) rfl
  | _ => simp [elems] at he

theorem setCells_eq {b : Nat} {el : TypeId} {f : Nat × Nat} : ∀ (vs : List Value) (k : Nat) (cs : Array Value) (w : World), w.heap[b]? = some (.cells cs el f) → w.setCells b k vs = setB w b (.cells (spl cs k vs) el f)
  | [], k, cs, w, h => by
    unfold World.setCells setB
    simp only [spl]
    obtain ⟨heap, _⟩ := w
    congr 1
    apply Array.ext_getElem?
    intro i
    simp only at h
    rw [Array.getElem?_setIfInBounds]
    split
    · next hh => subst hh; rw [if_pos ((Array.getElem?_eq_some_iff.1 h).1)]; exact h
    · rfl
  | v :: vs, k, cs, w, h => by
    rw [World.setCells, setCell_eq h, setCells_eq vs (k + 1) (cs.setIfInBounds k v) _ (setB_self h), setB_setB]
    rfl

theorem run_append_nothing {P : Program} {t tx ty e : TypeId} {i : TypeInfo} {w : World} (ht : P.underlying t = some (.slice e)) (hi : P.info? e = some i) {base : Option Addr} {sLen sCap : Nat} {x : Value} {news : List Value} (hs : Src P i.size tx x 0 news w) (hle : sLen ≤ sCap) :
    (Builtin.append_ #[t, tx] ty #[.slice base sLen sCap, x]).run P w = .ok (.slice base sLen sCap) w := by
  have hn : news = [] := List.eq_nil_of_length_eq_zero (by have := hs.newsLen; simpa using this)
  subst hn
  rcases hs.kind with ⟨e', hk⟩ | hk <;> cases base <;> simp [Builtin.append_, Go.run_underlying ht, Go.run_underlying hk, sizeOf, typeInfo, hi, hs.len, hle, hs.cells, storeCells]

/-- A draw of the tape. -/
def Ctx.drew (X : Ctx) : Ctx := { X with w := X.w.drew }
theorem drew_heap (w : World) : w.drew.heap = w.heap := rfl
theorem grow_drew (B : Nat) (X : Ctx) : Grow B X X.drew := ⟨⟨fun _ h => h, fun _ h => h, fun _ _ _ => rfl, fun _ _ => rfl, fun _ _ h => h⟩, ⟨rfl, rfl, rfl, Nat.le_refl _, fun _ _ => rfl⟩, fun _ h => Or.inl h⟩
theorem sim_drew {X : Ctx} {B : Nat} {h : Heap} (hr : HRel X B h) : Sim B X X.drew h h :=
  ⟨grow_drew B X, ⟨fun p g x hx => ⟨(hr.ob p g x hx).1, ObRel.mono (grow_drew B X).ext (fun _ _ _ _ => ⟨rfl, Or.inl⟩) (hr.ob p g x hx).2⟩, hr.inj, hr.old, hr.base⟩, fun _ _ _ => rfl, fun _ h => Or.inl h, fun _ h => Or.inl h⟩
theorem hrel_sub {X : Ctx} {B : Nat} {h h' : Heap} (hr : HRel X B h) (hs : ∀ p g x, h' p g = some x → h p g = some x) : HRel X B h' :=
  ⟨fun p g x hx => hr.ob p g x (hs p g x hx), fun p g x q k y b o s o' s' h1 h2 => hr.inj p g x q k y b o s o' s' (hs p g x h1) (hs q k y h2), hr.old, hr.base⟩
theorem sim_sub {X : Ctx} {B : Nat} {h h' : Heap} (hr : HRel X B h) (hs : ∀ p g x, h' p g = some x → h p g = some x) : Sim B X X h h' :=
  ⟨Grow.refl B X, hrel_sub hr hs, fun _ _ _ => rfl, fun _ h => Or.inl h, fun _ ⟨p, g, x, o, s, h1, h2⟩ => Or.inl ⟨p, g, x, o, s, hs p g x h1, h2⟩⟩
theorem upd_none_sub (h : Heap) (q : List Nat) (g : Nat) : ∀ p k x, h.upd q g none p k = some x → h p k = some x := by
  intro p k x hx
  rcases upd_of hx with ⟨_, _, hh⟩ | ⟨_, hh⟩
  · cases hh
  · exact hh

/-- A row under another name, from an element on. -/
def Ctx.again (X : Ctx) (p : List Nat) (g : Nat) (l : Loc) : Ctx := ⟨X.Φ, X.μ.upd p g l, fun k => X.u k ∨ k = g, X.w⟩
theorem grow_again {X : Ctx} {B : Nat} {p : List Nat} {g : Nat} {l : Loc} (hg : ¬ X.u g) : Grow B X (X.again p g l) := by
  refine ⟨⟨fun _ hb => hb, fun _ hk => Or.inl hk, fun q k hk => ?_, fun b hb => rfl, fun b n h => h⟩, Below.refl _ _, fun _ hb => Or.inl hb⟩
  simp only [Ctx.again, Mu.upd]
  rw [if_neg]
  rintro ⟨rfl, _⟩; exact hg hk
theorem sim_again {X : Ctx} {B : Nat} {h : Heap} (hr : HRel X B h) {q p : List Nat} {g c b o s k : Nat} {es : List V} (hk : k ≤ es.length) (hc : ¬ X.u c) (hx : h q g = some ⟨false, .row es⟩) (hm : X.μ q g = some (.blk b o s)) :
    Sim B X (X.again p c (.blk b (o + k * s) s)) h ((h.upd q g none).upd p c (some ⟨false, .row (es.drop k)⟩)) := by
  have hG := grow_again (X := X) (B := B) (p := p) (l := .blk b (o + k * s) s) hc
  have hmu : (X.again p c (.blk b (o + k * s) s)).μ p c = some (.blk b (o + k * s) s) := by simp [Ctx.again, Mu.upd]
  have old : ∀ r j y, h r j = some y → (X.again p c (.blk b (o + k * s) s)).μ r j = X.μ r j := fun r j y hy => hG.ext.μ r j (hr.ob r j y hy).1
  have hob := (hr.ob q g _ hx).2
  rw [hm] at hob
  have inv : ∀ r j y, ((h.upd q g none).upd p c (some ⟨false, .row (es.drop k)⟩)) r j = some y → (j = c ∧ r = p ∧ y = ⟨false, .row (es.drop k)⟩) ∨ (h r j = some y ∧ ¬ (j = g ∧ r = q)) := by
    intro r j y hy
    rcases upd_of hy with ⟨rfl, rfl, hh⟩ | ⟨_, hh⟩
    · simp only [Option.some.injEq] at hh; exact Or.inl ⟨rfl, rfl, hh.symm⟩
    · rcases upd_of hh with ⟨_, _, h3⟩ | ⟨h3, h4⟩
      · cases h3
      · exact Or.inr ⟨h4, h3⟩
  refine ⟨hG, ⟨fun r j y hy => ?_, fun r j y r' j' y' b1 o1 s1 o2 s2 hy hy' m1 m2 => ?_, hr.old, hr.base⟩, fun _ _ _ => rfl, fun b hb => Or.inl hb, fun b1 hb => ?_⟩
  · rcases inv r j y hy with ⟨rfl, rfl, rfl⟩ | ⟨h1, _⟩
    · refine ⟨Or.inr rfl, ?_⟩
      rw [hmu]
      obtain ⟨h0, h1, h2, h3, cs, el, f, h4, h5⟩ := hob
      have hlk : o + k * s + (es.drop k).length * s = o + es.length * s := by
        rw [List.length_drop, Nat.add_assoc, ← Nat.add_mul]; congr 2; omega
      exact ⟨hlk ▸ h0, h1, h2, RowV.mono hG.ext b s rfl _ _ (rowV_drop k h3), cs, el, f, h4, h5⟩
    · obtain ⟨k1, k2⟩ := hr.ob r j y h1
      refine ⟨Or.inl k1, ?_⟩
      rw [old r j y h1]
      exact ObRel.mono hG.ext (fun _ _ _ _ => ⟨rfl, Or.inl⟩) k2
  · rcases inv r j y hy with ⟨rfl, rfl, rfl⟩ | ⟨h1, n1⟩
    · rcases inv r' j' y' hy' with ⟨rfl, rfl, rfl⟩ | ⟨h1', n1'⟩
      · exact ⟨rfl, rfl⟩
      · rw [hmu] at m1
        simp only [Option.some.injEq, Loc.blk.injEq] at m1
        rw [old r' j' y' h1'] at m2
        obtain ⟨rfl, rfl⟩ := hr.inj r' j' y' q g _ b1 o2 s2 o s h1' hx m2 (by rw [hm, m1.1])
        exact absurd ⟨rfl, rfl⟩ n1'
    · rcases inv r' j' y' hy' with ⟨rfl, rfl, rfl⟩ | ⟨h1', n1'⟩
      · rw [hmu] at m2
        simp only [Option.some.injEq, Loc.blk.injEq] at m2
        rw [old r j y h1] at m1
        obtain ⟨rfl, rfl⟩ := hr.inj r j y q g _ b1 o1 s1 o s h1 hx m1 (by rw [hm, m2.1])
        exact absurd ⟨rfl, rfl⟩ n1
      · rw [old r j y h1] at m1
        rw [old r' j' y' h1'] at m2
        exact hr.inj r j y r' j' y' b1 o1 s1 o2 s2 h1 h1' m1 m2
  · obtain ⟨r, j, y, o', s', h1, m1⟩ := hb
    rcases inv r j y h1 with ⟨rfl, rfl, rfl⟩ | ⟨h2, _⟩
    · rw [hmu] at m1
      simp only [Option.some.injEq, Loc.blk.injEq] at m1
      exact Or.inl ⟨q, g, _, o, s, hx, by rw [hm, m1.1]⟩
    · rw [old r j y h2] at m1
      exact Or.inl ⟨r, j, y, o', s', h2, m1⟩
end Go.Pv
/- Appends. Conditions: as each lemma says. -/
namespace Go.Pv
open Go.RowKit

theorem append_grow {P : Program} {X : Ctx} {B : Nat} {h : Heap} (hr : HRel X B h) {p : List Nat} {c : Nat} (hc : ¬ X.u c) {t tx ty e : TypeId} {i : TypeInfo} {z : Value} (ht : P.underlying t = some (.slice e)) (hi : P.info? e = some i) (hz : i.zero = some z) (hzs : z.cells.size = i.size) (hp : 0 < i.size)
    {base : Option Addr} {sLen sCap : Nat} {xv : Value} {os new : List V} {olds news : List Value} (hold : (Builtin.firstCells i.size sLen (.slice base sLen sCap)).run P X.w.drew = .ok olds.toArray X.w.drew) (hol : olds.length = sLen * i.size) (hor : RowC X olds.toArray i.size os 0) (hos : os.length = sLen)
    (hs : Src P i.size tx xv new.length news X.w) (hnr : RowC X news.toArray i.size new 0) (hg : sCap < sLen + new.length) (hmax : sLen + new.length ≤ 1048576) (hby : i.bytes ≤ 1024) :
    ∃ Y r, (Builtin.append_ #[t, tx] ty #[.slice base sLen sCap, xv]).run P X.w = .ok r Y.w ∧ RelV Y (.own p c 0 (sLen + new.length) i.size) r ∧ Sim B X Y h (h.upd p c (some ⟨false, .row (os ++ new)⟩)) ∧ ∀ k, Y.u k ↔ (X.u k ∨ k = c) := by
  have hmul : (sLen + new.length) * i.bytes ≤ 1048576 * 1024 := Nat.mul_le_mul hmax hby
  have hrun := run_append_grow_src X.w t tx ty e i z ht hi hz base sLen sCap olds hold xv new.length news hs hg (by omega) (growslice_fits hg (by omega))
  have hge := grownCap_ge X.w (sLen + new.length) sCap e
  generalize grownCap X.w (sLen + new.length) sCap e = cap at hrun hge
  have hS := sim_drew hr
  let cells : Array Value := (olds ++ news).toArray ++ Builtin.zeroCells z.cells (cap - (sLen + new.length))
  have hcs : cells.size = cap * i.size := by
    simp only [cells, Array.size_append, List.size_toArray, List.length_append, size_zeroCells, hzs, hol, hs.newsLen]
    rw [← Nat.add_mul, ← Nat.add_mul]
    congr 1; omega
  have hnl := hs.newsLen
  have hrow : RowC X cells i.size (os ++ new) 0 := by
    refine RowC.append (RowC.congr hor fun j hj => ?_) (RowC.congr hnr fun j hj => ?_)
    · rw [hos] at hj
      rw [Array.getElem?_append_left (by simp; omega)]
      simp only [List.getElem?_toArray]
      rw [List.getElem?_append_left (by omega)]
    · rw [hos]
      rw [Array.getElem?_append_left (by simp; omega)]
      simp only [List.getElem?_toArray]
      rw [List.getElem?_append_right (by omega)]
      congr 1; omega
  have hb : (X.drew.newKey p c 0 i.size (.cells cells e)).w.heap[X.w.heap.size]? = some (.cells cells e) := by
    show (alloc X.w.drew _).heap[X.w.drew.heap.size]? = _
    rw [alloc_heap, if_pos rfl]
  have hG := grow_newKey (p := p) (g := c) (o := 0) (s := i.size) (ob := .cells cells e) hS.rel hc
  have hsim := sim_newKey (p := p) (g := c) (s := i.size) (o := 0) (ob := .cells cells e) (x := ⟨false, .row (os ++ new)⟩) hS.rel hc
    (obRel_row (el := e) (cs := cells) hG.ext (by rw [hcs, List.length_append, hos, Nat.zero_add]; exact Nat.mul_le_mul_right _ hge) hr.base hb (not_Φ_new hr) (RowC.mono hS.grow.ext hrow))
  refine ⟨X.drew.newKey p c 0 i.size (.cells cells e), _, hrun, ?_, hS.trans hsim, fun k => Iff.rfl⟩
  simp only [RelV]
  refine ⟨Or.inr rfl, _, cap, rfl, hge, fun _ => ⟨_, rfl⟩, fun hm => ?_, fun b o' s hm => ?_⟩
  · rw [mu_newKey] at hm; cases hm
  · rw [mu_newKey] at hm
    simp only [Option.some.injEq, Loc.blk.injEq] at hm
    obtain ⟨rfl, rfl, rfl⟩ := hm
    refine ⟨rfl, Or.inr ⟨by simp [Ctx.drew, drew_heap], cells, e, (0, 0), hb, ?_⟩⟩
    rw [hcs]; simp

theorem heap_upd_upd (h : Heap) (q : List Nat) (g : Nat) (x y : Option Ob) : (h.upd q g x).upd q g y = h.upd q g y := by
  funext p k
  simp only [Heap.upd]
  split <;> rfl

theorem append_room {P : Program} {X : Ctx} {B : Nat} {h : Heap} (hr : HRel X B h) {q : List Nat} {g c o n : Nat} (hc : ¬ X.u c) {t tx ty e : TypeId} {i : TypeInfo} (ht : P.underlying t = some (.slice e)) (hi : P.info? e = some i)
    {b o' cap : Nat} {xv : Value} {es new : List V} {news : List Value} (hx : h q g = some ⟨false, .row es⟩) (hm : X.μ q g = some (.blk b o' i.size)) (hle : o + n ≤ es.length) (hroom : room X.w b (o' + (o + cap) * i.size))
    (hs : Src P i.size tx xv new.length news X.w) (hnr : RowC X news.toArray i.size new 0) (hg : n + new.length ≤ cap) :
    ∃ Y r, (Builtin.append_ #[t, tx] ty #[.slice (some ⟨b, o' + o * i.size, none⟩) n cap, xv]).run P X.w = .ok r Y.w ∧ RelV Y (.own q c 0 (n + new.length) i.size) r ∧ Sim B X Y h ((h.upd q g none).upd q c (some ⟨false, .row ((es.drop o).take n ++ new)⟩)) ∧ ∀ k, Y.u k ↔ (X.u k ∨ k = c) := by
  have hob := (hr.ob q g _ hx).2
  rw [hm] at hob
  obtain ⟨hp, hB, hΦ, hrow, cs, el, f, hb, hf⟩ := hob
  have hΦ' : ¬ X.Φ b := fun hh => by cases hΦ hh
  have hf' := hf rfl
  obtain ⟨cs1, el1, f1, hb1, hcs⟩ := hroom
  rw [hb] at hb1
  simp only [Option.some.injEq, Obj.cells.injEq] at hb1
  obtain ⟨rfl, rfl, rfl⟩ := hb1
  have hnl := hs.newsLen
  have hmul : (o + (n + new.length)) * i.size ≤ (o + cap) * i.size := Nat.mul_le_mul_right _ (by omega)
  simp only [Nat.add_mul] at hmul hcs
  have hfit : o' + o * i.size + n * i.size + news.length ≤ cs.size := by omega
  have hrun := run_append_room_src X.w t tx ty e i ht hi b (o' + o * i.size) n cap xv new.length news hs hg
    (fun j hj => by rw [cell_of hb]; simp; omega) (fun j hj => by simp only [World.frozen?, hb]; have := hf' (o' + o * i.size + n * i.size + j) (by omega); obtain ⟨lo, hi⟩ := f; simpa using this)
  rw [setCells_eq news _ cs X.w hb] at hrun
  have hrowC := RowC.of_row hb hrow
  have hlen : (es.take (o + n)).length = o + n := by rw [List.length_take]; omega
  have hnew : RowC X (spl cs (o' + o * i.size + n * i.size) news) i.size (es.take (o + n) ++ new) o' := by
    refine RowC.append (RowC.congr (RowC.take (o + n) hrowC) fun j hj => ?_) (RowC.congr hnr fun j hj => ?_)
    · rw [hlen, Nat.add_mul] at hj
      rw [spl_get _ _ _ _ hfit, if_neg (by omega)]
    · rw [hlen, Nat.add_mul]
      rw [spl_get _ _ _ _ hfit, if_pos (by omega)]
      simp only [List.getElem?_toArray]
      congr 1; omega
  have s1 := sim_row hr hx hm (by rw [spl_size, List.length_append, hlen, Nat.add_mul, Nat.add_mul]; omega) hB hΦ' hb hf' (spl_size news cs (o' + o * i.size + n * i.size)) hnew
  have s2 := sim_again (p := q) (c := c) (k := o) s1.rel (hc := hc) (q := q) (g := g) (b := b) (o := o') (s := i.size) (es := es.take (o + n) ++ new) (by rw [List.length_append, hlen]; omega) (by simp [Heap.upd]) hm
  rw [heap_upd_upd] at s2
  have hd : (es.take (o + n) ++ new).drop o = (es.drop o).take n ++ new := by
    rw [List.drop_append_of_le_length (by omega), List.drop_take]
    congr 2; omega
  rw [hd] at s2
  refine ⟨_, _, hrun, ?_, s1.trans s2, fun k => Iff.rfl⟩
  simp only [RelV]
  refine ⟨Or.inr rfl, _, cap, rfl, hg, fun _ => ⟨_, rfl⟩, fun hm => ?_, fun b2 o2 s3 hm => ?_⟩
  · simp [Ctx.again, Mu.upd] at hm
  · simp only [Ctx.again, Mu.upd, and_self, if_true, Option.some.injEq, Loc.blk.injEq] at hm
    obtain ⟨rfl, rfl, rfl⟩ := hm
    refine ⟨rfl, Or.inr ⟨by simp, (s1.trans s2).grow.ext.room _ _ ⟨cs, el, f, hb, ?_⟩⟩⟩
    simp only [Nat.add_mul]; omega

theorem append_virt {P : Program} {X : Ctx} {B : Nat} {h : Heap} (hr : HRel X B h) {q : List Nat} {c : Nat} (hc : ¬ X.u c) {t tx ty e : TypeId} {i : TypeInfo} (ht : P.underlying t = some (.slice e)) (hi : P.info? e = some i) {a : Option Addr}
    {xv : Value} {news : List Value} (hs : Src P i.size tx xv 0 news X.w) :
    ∃ Y r, (Builtin.append_ #[t, tx] ty #[.slice a 0 0, xv]).run P X.w = .ok r Y.w ∧ RelV Y (.own q c 0 0 i.size) r ∧ Sim B X Y h (h.upd q c (some ⟨false, .row []⟩)) ∧ ∀ k, Y.u k ↔ (X.u k ∨ k = c) := by
  refine ⟨X.newVirt q c, _, run_append_nothing ht hi hs (Nat.le_refl 0), ?_, sim_newVirt hr hc, fun k => Iff.rfl⟩
  simp only [RelV]
  refine ⟨Or.inr rfl, a, 0, rfl, Nat.le_refl _, fun hh => absurd hh (Nat.lt_irrefl _), fun _ => rfl, fun b o' s hm => ?_⟩
  rw [mu_newVirt] at hm; cases hm

theorem append_sim {P : Program} {X : Ctx} {B : Nat} {h h' : Heap} (hr : HRel X B h) {p : List Nat} {c c' : Nat} (hc : ¬ X.u c) {t tx ty : TypeId} {s x v : V} {sv xv : Value} (hs : RelV X s sv) (hx : RelV X x xv) (hv : appendV P h p c t s x tx = some (v, h', c')) :
    c ≤ c' ∧ ∃ Y r, (Builtin.append_ #[t, tx] ty #[sv, xv]).run P X.w = .ok r Y.w ∧ RelV Y v r ∧ Sim B X Y h h' ∧ ∀ k, Y.u k → (X.u k ∨ (c ≤ k ∧ k < c')) := by
  unfold appendV at hv
  split at hv
  · cases hv
  · next e he =>
    split at hv
    · next hc1 =>
      obtain ⟨hby, hp, hzany⟩ := hc1
      have ht := elemT_spec he
      obtain ⟨zz, hz, hzc⟩ : ∃ z, zeroV P e = some z ∧ (z.ncells == sz P e && z.still) = true := by
        cases hz : zeroV P e with
        | none => rw [hz] at hzany; cases hzany
        | some z => rw [hz] at hzany; exact ⟨z, rfl, hzany⟩
      simp only [Bool.and_eq_true, beq_iff_eq] at hzc
      obtain ⟨i, zv, hi, hiz, rfl⟩ := zeroV_spec hz
      have hsz : sz P e = i.size := by simp [sz, Program.cellsOf, hi]
      have hbe : P.bytesOf e = i.bytes := by simp [Program.bytesOf, hi]
      have hzs := size_rel (ofValue_rel X zv) hzc.2
      rw [hzc.1, hsz] at hzs
      rw [hbe] at hby
      rw [hsz] at hp
      simp only at hv
      split at hv
      · cases hv
      · next new hadd =>
        split at hv
        · next hall =>
          rw [hsz] at hall
          have hsrc : ∃ news, Src P i.size tx xv new.length news X.w ∧ RowC X news.toArray i.size new 0 := by
            split at hadd
            · next str =>
              split at hadd
              · next hcs =>
                simp only [Option.some.injEq] at hadd; subst hadd
                have := rel_str hx; subst this
                have h1 : i.size = 1 := by rw [← hsz]; exact hcs.2
                have hl : (str.data.toList.map fun b => V.t (.int .u8 b.toNat)).length = str.size := by simp
                rw [hl, h1]
                exact ⟨_, Src.ofString X.w (isStr_spec hcs.1) str, byteRow X _⟩
              · cases hadd
            · split at hadd
              · next hk =>
                obtain ⟨e', hk⟩ := Option.isSome_iff_exists.1 hk
                exact elems_src hr (elemT_spec hk) hx hadd hall
              · cases hadd
          obtain ⟨news, hS, hnr⟩ := hsrc
          have fin : ∀ {hh : Heap} {w0 : V}, (∃ Y r, (Builtin.append_ #[t, tx] ty #[sv, xv]).run P X.w = .ok r Y.w ∧ RelV Y w0 r ∧ Sim B X Y h hh ∧ ∀ k, Y.u k ↔ (X.u k ∨ k = c)) → c ≤ c + 1 ∧ ∃ Y r, (Builtin.append_ #[t, tx] ty #[sv, xv]).run P X.w = .ok r Y.w ∧ RelV Y w0 r ∧ Sim B X Y h hh ∧ ∀ k, Y.u k → (X.u k ∨ (c ≤ k ∧ k < c + 1)) := by
            rintro hh w0 ⟨Y, r, h1, h2, h3, h4⟩
            exact ⟨Nat.le_succ c, Y, r, h1, h2, h3, fun k hk => ((h4 k).1 hk).imp id (fun hh => by omega)⟩
          split at hv
          · -- cap0
            split at hv
            · next hmax =>
              simp only [Option.some.injEq, Prod.mk.injEq] at hv
              obtain ⟨rfl, rfl, rfl⟩ := hv
              simp only [RelV] at hs
              obtain ⟨a, rfl⟩ := hs
              refine fin ?_
              rw [hsz]
              by_cases hn : new = []
              · subst hn
                exact append_virt hr hc ht hi hS
              · have hpos : 0 < new.length := List.length_pos_iff.2 hn
                have := append_grow (ty := ty) (p := p) (os := []) (olds := []) hr hc ht hi hiz hzs hp (base := a) (sLen := 0) (sCap := 0) (xv := xv) (new := new) (news := news) (tx := tx)
                  (by cases a <;> simp [Builtin.firstCells, loadCells, loadCellsFrom]) (by simp) trivial rfl hS hnr (by omega) (by omega) hby
                simpa using this
            · cases hv
          · -- own
            next q g o n s =>
            split at hv
            · next es hes =>
              split at hv
              · next hcond =>
                obtain ⟨hle, hmax, rfl⟩ := hcond
                simp only [Option.some.injEq, Prod.mk.injEq] at hv
                obtain ⟨rfl, rfl, rfl⟩ := hv
                have hob := rowW_spec hes
                simp only [RelV] at hs
                obtain ⟨_, a, cap, rfl, hcap, h0, hvirt, hblk⟩ := hs
                have hrn : HRel X B (h.upd q g none) := hrel_sub hr (upd_none_sub h q g)
                have hsn : Sim B X X h (h.upd q g none) := sim_sub hr (upd_none_sub h q g)
                have lift : ∀ {hh : Heap} {w0 : V} {a : Option Addr} {n cap : Nat}, (∃ Y r, (Builtin.append_ #[t, tx] ty #[.slice a n cap, xv]).run P X.w = .ok r Y.w ∧ RelV Y w0 r ∧ Sim B X Y (h.upd q g none) hh ∧ ∀ k, Y.u k ↔ (X.u k ∨ k = c)) → ∃ Y r, (Builtin.append_ #[t, tx] ty #[.slice a n cap, xv]).run P X.w = .ok r Y.w ∧ RelV Y w0 r ∧ Sim B X Y h hh ∧ ∀ k, Y.u k ↔ (X.u k ∨ k = c) := by
                  rintro hh w0 a n cap ⟨Y, r, h1, h2, h3, h4⟩
                  exact ⟨Y, r, h1, h2, hsn.trans h3, h4⟩
                refine fin ?_
                rw [hsz]
                have hlen : ((es.drop o).take n).length = n := by rw [List.length_take, List.length_drop]; omega
                have hob2 := (hr.ob q g _ hob).2
                have zero : n = 0 → cap = 0 → ∃ Y r, (Builtin.append_ #[t, tx] ty #[.slice a n cap, xv]).run P X.w = .ok r Y.w ∧ RelV Y (.own q c 0 (n + new.length) i.size) r ∧ Sim B X Y h ((h.upd q g none).upd q c (some ⟨false, .row ((es.drop o).take n ++ new)⟩)) ∧ ∀ k, Y.u k ↔ (X.u k ∨ k = c) := by
                  intro hn0 hc0
                  subst hn0; subst hc0
                  by_cases hn : new = []
                  · subst hn
                    simpa using lift (append_virt hrn hc ht hi hS)
                  · have hpos : 0 < new.length := List.length_pos_iff.2 hn
                    have := append_grow (ty := ty) (p := q) (os := []) (olds := []) hrn hc ht hi hiz hzs hp (base := a) (sLen := 0) (sCap := 0) (xv := xv) (new := new) (news := news) (tx := tx)
                      (by cases a <;> simp [Builtin.firstCells, loadCells, loadCellsFrom]) (by simp) trivial rfl hS hnr (by omega) (by omega) hby
                    simpa using lift this
                cases hl : X.μ q g with
                | none => rw [hl] at hob2; exact hob2.elim
                | some l =>
                  cases l with
                  | virt =>
                    have := hvirt hl
                    exact zero (by omega) this
                  | blk b o' s' =>
                    obtain ⟨e1, hh⟩ := hblk b o' s' hl
                    rw [hsz] at e1
                    subst e1
                    rcases hh with hh | ⟨rfl, hroom⟩
                    · exact zero (by omega) hh
                    · by_cases hfit : n + new.length ≤ cap
                      · exact append_room hr hc ht hi hob hl hle hroom hS hnr hfit
                      · refine lift ?_
                        rw [hl] at hob2
                        obtain ⟨_, _, _, hrow, _⟩ := hob2
                        obtain ⟨olds, g1, g2, g3, g4⟩ := rowV_cells (rowV_take n (rowV_drop o hrow))
                        rw [hlen] at g1
                        exact append_grow (ty := ty) (p := q) hrn hc ht hi hiz hzs hp (xv := xv) (new := new) (news := news) (tx := tx)
                          (run_firstCells_some X.w.drew i.size n _ n cap olds g1 (fun j u hj => by rw [add_eq]; exact g2 j u hj)) g1 g4 hlen hS hnr (by omega) hmax hby
              · cases hv
            · cases hv
          · -- vec
            next es =>
            split at hv
            · next hemp =>
              simp only [Option.some.injEq, Prod.mk.injEq] at hv
              obtain ⟨rfl, rfl, rfl⟩ := hv
              have hn : new = [] := List.isEmpty_iff.1 hemp
              subst hn
              have hs' := hs
              simp only [RelV] at hs
              obtain ⟨a, rfl, _⟩ := hs
              exact ⟨Nat.le_refl _, X, _, run_append_nothing ht hi hS (Nat.le_refl _), hs', Sim.refl hr, fun k hk => Or.inl hk⟩
            · next hemp =>
              split at hv
              · next hcond =>
                simp only [Option.some.injEq, Prod.mk.injEq] at hv
                obtain ⟨rfl, rfl, rfl⟩ := hv
                have hpos : 0 < new.length := by
                  rcases Nat.eq_zero_or_pos new.length with h0 | h0
                  · have := List.eq_nil_of_length_eq_zero h0; subst this; exact absurd rfl hemp
                  · exact h0
                refine fin ?_
                rw [hsz]
                simp only [RelV] at hs
                obtain ⟨a, rfl, hh⟩ := hs
                have hall2 := hcond.2
                rw [hsz] at hall2
                rcases hh with rfl | ⟨b, o, s, rfl, _, hrow⟩
                · have := append_grow (ty := ty) (p := p) (os := []) (olds := []) hr hc ht hi hiz hzs hp (base := a) (sLen := 0) (sCap := 0) (xv := xv) (new := new) (news := news) (tx := tx)
                    (by cases a <;> simp [Builtin.firstCells, loadCells, loadCellsFrom]) (by simp) trivial rfl hS hnr (by omega) (by simpa using hcond.1) hby
                  simpa using this
                · obtain ⟨olds, g1, g2, g3, g4⟩ := rowV_cells hrow
                  rcases g4.resize hall2 with rfl | rfl
                  · have := append_grow (ty := ty) (p := p) (os := []) (olds := []) hr hc ht hi hiz hzs hp (base := some ⟨b, o, none⟩) (sLen := 0) (sCap := 0) (xv := xv) (new := new) (news := news) (tx := tx)
                      (by simp [Builtin.firstCells, loadCells, loadCellsFrom]) (by simp) trivial rfl hS hnr (by omega) (by simpa using hcond.1) hby
                    simpa using this
                  · exact append_grow (ty := ty) (p := p) hr hc ht hi hiz hzs hp (xv := xv) (new := new) (news := news) (tx := tx)
                      (run_firstCells_some X.w.drew i.size es.length _ es.length es.length olds g1 (fun j u hj => by rw [add_eq]; exact g2 j u hj)) g1 g4 rfl hS hnr (by omega) hcond.1 hby
              · cases hv
          · cases hv
        · cases hv
    · cases hv
end Go.Pv
/- Slices that are written out, iterators over strings, clear. Conditions: as each lemma says. -/
namespace Go.Pv
open Go.RowKit

theorem sliceLit_len {z : V} {size : Nat} : ∀ (n i : Nat) (ps : List (Nat × V)) (es : List V), sliceLit z size i n ps = some es → es.length = n
  | 0, i, [], es, h => by simp only [sliceLit, Option.some.injEq] at h; subst h; rfl
  | 0, i, _ :: _, es, h => by simp [sliceLit] at h
  | n + 1, i, [], es, h => by simp [sliceLit] at h
  | n + 1, i, (j, v) :: rest, es, h => by
    simp only [sliceLit] at h
    split at h
    · cases hr : sliceLit z size (i + 1) n rest with
      | none => rw [hr] at h; cases h
      | some es' =>
        rw [hr] at h
        simp only [Option.map_some, Option.some.injEq] at h; subst h
        simp [sliceLit_len n (i + 1) rest es' hr]
    · cases h

theorem fill_row {X : Ctx} {z : V} {size : Nat} : ∀ (n i : Nat) (ps : List (Nat × V)) (xs : List (Nat × Value)) (es : List V) (vs : Array Value), PartsRel X ps xs → sliceLit z size i n ps = some es → (i + n) * size ≤ vs.size →
    ∃ ws, Instr.fill (fun i => some (i * size, size)) vs xs = some ws ∧ ws.size = vs.size ∧ (∀ j, j < i * size → ws[j]? = vs[j]?) ∧ RowC X ws size es (i * size)
  | 0, i, [], xs, es, vs, hp, h, hl => by
    simp only [PartsRel] at hp; subst hp
    simp only [sliceLit, Option.some.injEq] at h; subst h
    exact ⟨vs, rfl, rfl, fun _ _ => rfl, trivial⟩
  | 0, i, _ :: _, xs, es, vs, hp, h, hl => by simp [sliceLit] at h
  | n + 1, i, [], xs, es, vs, hp, h, hl => by simp [sliceLit] at h
  | n + 1, i, (j, v) :: rest, xs, es, vs, hp, h, hl => by
    simp only [PartsRel] at hp
    obtain ⟨x, xs', rfl, hx, hp⟩ := hp
    simp only [sliceLit] at h
    split at h
    · next hc =>
      obtain ⟨rfl, hs, hn⟩ := hc
      cases hr : sliceLit z size (i + 1) n rest with
      | none => rw [hr] at h; cases h
      | some es' =>
        rw [hr] at h
        simp only [Option.map_some, Option.some.injEq] at h; subst h
        have hsz := size_rel hx hs
        have hxl : x.cells.toList.length = size := by simp; omega
        have hmul : (i + 1) * size ≤ (i + (n + 1)) * size := Nat.mul_le_mul_right _ (by omega)
        have hi1 : (i + 1) * size = i * size + size := by rw [Nat.succ_mul]
        have hb2 : i * size + x.cells.toList.length ≤ vs.size := by omega
        obtain ⟨ws, g1, g2, g3, g4⟩ := fill_row n (i + 1) rest xs' es' (spl vs (i * size) x.cells.toList) hp hr (by rw [spl_size, show i + 1 + n = i + (n + 1) from by omega]; exact hl)
        refine ⟨ws, ?_, by rw [g2, spl_size], fun j hj => ?_, ⟨x, hx, hs, by omega, fun y hy => relCsV_sc (cells_rel hx hs) y hy, fun j u hj => ?_⟩, ?_⟩
        · simp only [Instr.fill]
          have : ¬ ((decide (x.cells.size ≠ size) || decide (i * size + x.cells.size > vs.size)) = true) := by
            simp at hb2
            simp; omega
          rw [if_neg this]
          have hz : x.cells.zipIdx.foldl (fun cs (c, j) => cs.setIfInBounds (i * size + j) c) vs = spl vs (i * size) x.cells.toList := by
            rw [← Array.foldl_toList]
            simpa using foldl_set vs (i * size) x.cells.toList 0
          rw [hz]
          exact g1
        · rw [g3 j (by omega), spl_get _ _ _ _ hb2, if_neg (by omega)]
        · have hlt : j < x.cells.toList.length := (List.getElem?_eq_some_iff.1 hj).1
          rw [g3 _ (by omega), spl_get _ _ _ _ hb2, if_pos (by omega)]
          rw [show i * size + j - i * size = j from by omega]
          exact hj
        · rw [← hi1]; exact g4
    · cases h

theorem buildSlice_sim {P : Program} {X : Ctx} {B : Nat} {h : Heap} (hr : HRel X B h) {t : TypeId} {len : Nat} {parts : List (Nat × V)} {xs : Array (Nat × Value)} {v : V} (hp : PartsRel X parts xs.toList) (hv : buildSliceV P t len parts = some v) :
    ∃ Y r, (Instr.buildSlice t len xs).run P X.w = .ok r Y.w ∧ RelV Y v r ∧ Sim B X Y h h ∧ ∀ k, Y.u k ↔ X.u k := by
  unfold buildSliceV at hv
  split at hv
  · next e he =>
    split at hv
    · next z hz =>
      split at hv
      · next hc =>
        obtain ⟨hzn, hzp, hmax⟩ := hc
        cases hl : sliceLit z (sz P e) 0 len parts with
        | none => rw [hl] at hv; cases hv
        | some es =>
          rw [hl] at hv
          simp only [Option.map_some, Option.some.injEq] at hv; subst hv
          have hu := elemT_spec he
          obtain ⟨zv, z1, z2⟩ := run_zero (X := X) hz X.w
          obtain ⟨i, zv', hi, hiz, _⟩ := zeroV_spec hz
          let zc : Array Value := if len * sz P e = 0 then #[] else zv.cells
          obtain ⟨ws, g1, g2, g3, g4⟩ := fill_row len 0 parts xs.toList es ((Array.range (len * sz P e)).map (zc[· % zc.size]!)) hp hl (by simp)
          have hlen := sliceLit_len len 0 parts es hl
          refine ⟨X.newΦ (.cells ws e), .slice (some ⟨X.w.heap.size, 0, none⟩) len len, ?_, ?_, sim_newΦ hr, fun k => Iff.rfl⟩
          · have hno : ¬ (len * sz P e > 2 ^ 24) := by
              have : (2 : Nat) ^ 24 = 16777216 := by decide
              omega
            by_cases h0 : len * sz P e = 0
            · simp only [zc, h0, if_true] at g1
              have hno' : ¬ (0 > 2 ^ 24) := by omega
              simp only [Instr.buildSlice, run_bind, run_underlying hu, run_sizeOf hi, hno', if_false, run_pure, h0, if_true]
              rw [g1]
              simp only [run_bind, run_newRow, run_pure]
              rfl
            · simp only [zc, h0, if_false] at g1
              simp only [Instr.buildSlice, run_bind, run_underlying hu, run_sizeOf hi, hno, if_false, run_pure, h0, z1]
              rw [g1]
              simp only [run_bind, run_newRow, run_pure]
              rfl
          · simp only [RelV]
            refine ⟨some ⟨X.w.heap.size, 0, none⟩, by rw [hlen], Or.inr ⟨X.w.heap.size, 0, sz P e, rfl, Or.inr rfl, ?_⟩⟩
            have hb : (X.newΦ (.cells ws e)).w.heap[X.w.heap.size]? = some (.cells ws e) := by
              show (alloc X.w _).heap[X.w.heap.size]? = _
              rw [alloc_heap, if_pos rfl]
            refine RowC.row (grow_newΦ hr).ext hb ?_
            simpa using g4
      · cases hv
    · cases hv
  · cases hv

theorem next_sim {P : Program} {X : Ctx} {B : Nat} {h : Heap} (hr : HRel X B h) {q : List Nat} {g pos : Nat} {s : ByteArray} {fz : Bool} {y : Value} {ty : TypeId} (hx : RelV X (.it q g) y) (hob : h q g = some ⟨fz, .it s pos⟩) :
    (pos < s.size → ∃ Y r, (Instr.next y true ty).run P X.w = .ok r Y.w ∧ RelV Y (.tup [.t (.bool true), .t (.int .i64 pos), .t (.int .i32 (Utf8.decode s pos).1)]) r ∧ Sim B X Y h (h.upd q g (some ⟨false, .it s (pos + (Utf8.decode s pos).2)⟩)) ∧ ∀ k, Y.u k ↔ X.u k) ∧
    (¬ pos < s.size → ∃ r, (Instr.next y true ty).run P X.w = .ok r X.w ∧ RelV X (.tup [.t (.bool false)]) r) := by
  have h2 := (hr.ob q g _ hob).2
  cases hl : X.μ q g with
  | none => rw [hl] at h2; exact h2.elim
  | some l =>
    rw [hl] at h2
    cases l with
    | virt => exact h2.elim
    | blk b o s' =>
      obtain ⟨hB, hΦ, hb⟩ := h2
      simp only [RelV] at hx
      obtain ⟨_, r, sp, rfl, hr'⟩ := hx
      have := hr' b o s' hl; subst this
      have hget : (getObj r).run P X.w = .ok (.stringIter s pos) X.w := by simp [getObj, Sem.run, hb]
      refine ⟨fun hlt => ?_, fun hge => ?_⟩
      · have hroom : ∀ n, room X.w r n → room (setB X.w r (.stringIter s (pos + (Utf8.decode s pos).2))) r n := by
          rintro n ⟨cs, el, f, h1, _⟩
          rw [hb] at h1; cases h1
        refine ⟨X.setB r (.stringIter s (pos + (Utf8.decode s pos).2)), .tuple #[.bool true, .int .i64 pos, .int .i32 (Utf8.decode s pos).1], ?_, ?_, sim_setB hr hob hl hB hΦ hroom ⟨hB, hΦ, setB_self hb⟩, fun k => Iff.rfl⟩
        · have hset : (setObj r (.stringIter s (pos + (Utf8.decode s pos).2))).run P X.w = .ok () (setB X.w r (.stringIter s (pos + (Utf8.decode s pos).2))) := by
            simp [setObj, Sem.run, hb, setB]
          simp only [Instr.next, run_bind, hget, hlt, if_true, hset, run_pure]
          rfl
        · simp only [RelV]
          exact ⟨_, rfl, by simp [RelVs, RelV, RelT]⟩
      · refine ⟨.tuple #[.bool false], ?_, ?_⟩
        · simp only [Instr.next, run_bind, hget, hge, if_false, run_pure]
        · simp only [RelV]
          exact ⟨_, rfl, by simp [RelVs, RelV, RelT]⟩

theorem clear_sim {P : Program} {X : Ctx} {B : Nat} {h : Heap} (hr : HRel X B h) {q : List Nat} {g o n : Nat} {es : List V} {z : V} {t e ty : TypeId} {y : Value} (he : elemT P t = some e) (hz : zeroV P e = some z) (hx : RelV X (.own q g o n (sz P e)) y) (hob : h q g = some ⟨false, .row es⟩)
    (hle : o + n ≤ es.length) (hzn : z.ncells = sz P e) (hzp : 0 < sz P e) (hzs : z.still = true) :
    ∃ Y, (Builtin.clear_ #[t] ty #[y]).run P X.w = .ok (.tuple #[]) Y.w ∧ Sim B X Y h (h.upd q g (some ⟨false, .row (es.take o ++ List.replicate n z ++ es.drop (o + n))⟩)) ∧ ∀ k, Y.u k ↔ X.u k := by
  have hu := elemT_spec he
  have h2 := (hr.ob q g _ hob).2
  simp only [RelV] at hx
  obtain ⟨_, a, cap, rfl, hcap, h0, hvirt, hblk⟩ := hx
  by_cases hn : n = 0
  · subst hn
    have e1 : es.take o ++ List.replicate 0 z ++ es.drop (o + 0) = es := by simp
    rw [e1]
    have e2 : h.upd q g (some ⟨false, .row es⟩) = h := by
      funext p k
      simp only [Heap.upd]
      split
      · next hh => obtain ⟨rfl, rfl⟩ := hh; exact hob.symm
      · rfl
    rw [e2]
    refine ⟨X, ?_, Sim.refl hr, fun k => Iff.rfl⟩
    cases a <;> simp [Builtin.clear_, Go.run_underlying hu]
  · cases hl : X.μ q g with
    | none => rw [hl] at h2; exact h2.elim
    | some l =>
      rw [hl] at h2
      cases l with
      | virt => have := hvirt hl; omega
      | blk b o' s' =>
        obtain ⟨hp, hB, hΦ, hrow, cs, el, f, hb, hf⟩ := h2
        have hΦ' : ¬ X.Φ b := fun hh => by cases hΦ hh
        obtain ⟨rfl, hh⟩ := hblk b o' s' hl
        rcases hh with hh | ⟨rfl, _⟩
        · omega
        · obtain ⟨zv, z1, z2⟩ := run_zero (X := X) hz X.w
          have hzsz := size_rel z2 hzs
          rw [hzn] at hzsz
          have hrowC := RowC.of_row hb hrow
          have hlen : o' + es.length * sz P e ≤ cs.size := by
            obtain ⟨cs1, el1, f1, hb1, hs1⟩ := hp
            rw [hb] at hb1
            simp only [Option.some.injEq, Obj.cells.injEq] at hb1
            obtain ⟨rfl, rfl, rfl⟩ := hb1
            exact hs1
          have hm1 : (o + n) * sz P e ≤ es.length * sz P e := Nat.mul_le_mul_right _ hle
          rw [Nat.add_mul] at hm1
          have hzl : (Builtin.zeroCells zv.cells n).toList.length = n * sz P e := by rw [Array.length_toList, size_zeroCells, hzsz]
          have hfit : o' + o * sz P e + (Builtin.zeroCells zv.cells n).toList.length ≤ cs.size := by omega
          have hzscs : RowC X (Builtin.zeroCells zv.cells n) (sz P e) (List.replicate n z) 0 := by
            have := rowC_zeros z2 hzs (Builtin.zeroCells zv.cells n) n 0 (fun j _ hj => zero_mod _ _ _ (by simpa using hj))
            rw [hzsz] at this
            simpa using this
          have hsc : ∀ y ∈ (Builtin.zeroCells zv.cells n).toList, Sc y := by
            intro y hy
            obtain ⟨j, hj⟩ := List.getElem?_of_mem hy
            have hjl := (List.getElem?_eq_some_iff.1 hj).1
            rw [hzl] at hjl
            rw [Array.getElem?_toList] at hj
            have := zero_mod zv.cells n j (by rw [hzsz]; exact hjl)
            rw [show (Builtin.zeroCells zv.cells n)[j]? = zv.cells[j % zv.cells.size]? from this] at hj
            exact relCsV_sc (cells_rel z2 hzs) y (by rw [← Array.getElem?_toList] at hj; exact List.mem_of_getElem? hj)
          have hst := run_storeCells (P := P) (b := b) (o := o' + o * sz P e) (el := el) (f := f) (Builtin.zeroCells zv.cells n).toList 0 cs X.w hb (by simpa using hfit) hsc (fun j h1 h2 => hf rfl j (by simp at h2 hfit; omega))
          simp only [Nat.add_zero] at hst
          have hto : (es.take o).length = o := by rw [List.length_take]; omega
          refine ⟨X.setB b (.cells (spl cs (o' + o * sz P e) (Builtin.zeroCells zv.cells n).toList) el f), ?_, sim_row hr hob hl (by rw [spl_size]; simp only [List.length_append, List.length_take, List.length_replicate, List.length_drop]; rw [show min o es.length + n + (es.length - (o + n)) = es.length from by omega]; exact hlen) hB hΦ' hb (hf rfl) (by simp) ?_, fun k => Iff.rfl⟩
          · cases n with
            | zero => exact absurd rfl hn
            | succ n =>
              simp only [Builtin.clear_, run_bind, Go.run_underlying hu, run_pure, run_underlying hu, List.getElem?_toArray, List.getElem?_cons_zero, z1, hst]
              rfl
          · rw [List.append_assoc]
            refine RowC.append (RowC.congr (RowC.take o hrowC) fun j hj => ?_) (RowC.append (RowC.congr hzscs fun j hj => ?_) (RowC.congr (RowC.drop (o + n) hrowC) fun j hj => ?_))
            · rw [hto] at hj
              rw [spl_get _ _ _ _ hfit, if_neg (by omega)]
            · rw [List.length_replicate] at hj
              rw [hto, spl_get _ _ _ _ hfit, if_pos (by omega), Array.getElem?_toList]
              congr 1; omega
            · rw [hto, List.length_replicate]
              rw [spl_get _ _ _ _ hfit, if_neg (by omega), Nat.add_mul]
              congr 1; omega
end Go.Pv
