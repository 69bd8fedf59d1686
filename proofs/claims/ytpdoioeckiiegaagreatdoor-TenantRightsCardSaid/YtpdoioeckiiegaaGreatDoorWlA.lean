/- The state of a walk: a world, seen as persistent facts about cells that nothing writes any more, and tokens that own the cells that may be written. -/
import Derived.Calls
import Derived.OrdersHeld
import Derived.Below
import Derived.WalkKit
import Derived.KernelRfl
set_option linter.unusedSimpArgs false
set_option linter.unusedVariables false
namespace Go.Proofs.YtpdoioeckiiegaaGreatDoor.Wl
open Go.RowKit

inductive Itm where
  | cell (v : Value)
  | obj (o : Obj)

abbrev Hp := Nat → Nat → Option Itm
abbrev Im := Nat → Nat → Option Value

def Hp.disj (h k : Hp) : Prop := ∀ b o, h b o = none ∨ k b o = none
def Hp.le (h k : Hp) : Prop := ∀ b o x, h b o = some x → k b o = some x
def Im.le (h k : Im) : Prop := ∀ b o x, h b o = some x → k b o = some x
def Hp.union (h k : Hp) : Hp := fun b o => (h b o).orElse fun _ => k b o
theorem Hp.le_refl (h : Hp) : h.le h := fun _ _ _ e => e
theorem Hp.le_trans {a b c : Hp} (h : a.le b) (k : b.le c) : a.le c := fun x y z e => k x y z (h x y z e)
theorem Im.le_refl (h : Im) : Im.le h h := fun _ _ _ e => e
theorem Im.le_trans {a b c : Im} (h : Im.le a b) (k : Im.le b c) : Im.le a c := fun x y z e => k x y z (h x y z e)
theorem Hp.union_left (h k : Hp) : h.le (h.union k) := fun b o x e => by simp [Hp.union, e]
theorem Hp.union_right {h k : Hp} (d : h.disj k) : k.le (h.union k) := fun b o x e => by
  rcases d b o with h0 | h0
  · simp [Hp.union, h0, e]
  · rw [h0] at e; cases e
theorem Hp.union_le {h k l : Hp} (a : h.le l) (b : k.le l) : (h.union k).le l := fun x y z e => by
  simp only [Hp.union] at e
  cases hh : h x y with
  | none => simp [hh] at e; exact b _ _ _ e
  | some q => simp [hh] at e; subst e; exact a _ _ _ hh
theorem Hp.disj.symm {h k : Hp} (d : h.disj k) : k.disj h := fun b o => (d b o).symm
theorem Hp.disj.mono {h k h' k' : Hp} (d : h.disj k) (a : h'.le h) (b : k'.le k) : h'.disj k' := fun x y => by
  rcases d x y with e | e
  · left
    cases q : h' x y with
    | none => rfl
    | some z => rw [a _ _ _ q] at e; cases e
  · right
    cases q : k' x y with
    | none => rfl
    | some z => rw [b _ _ _ q] at e; cases e
theorem Hp.disj.union {h k l : Hp} (a : h.disj l) (b : k.disj l) : (h.union k).disj l := fun x y => by
  rcases a x y with e | e
  · rcases b x y with f | f
    · left; simp [Hp.union, e, f]
    · right; exact f
  · right; exact e

/-- A persistent fact. -/
structure PP where
  p : Im → Prop
  mono : ∀ J J', Im.le J J' → p J → p J'
/-- A token. -/
structure HP where
  p : Im → Hp → Prop
  mono : ∀ J J' h, Im.le J J' → p J h → p J' h

def Sat : List HP → Im → Hp → Prop
  | [], _, _ => True
  | A :: G, J, h => ∃ h1 h2, h1.disj h2 ∧ h1.le h ∧ h2.le h ∧ A.p J h1 ∧ Sat G J h2

theorem Sat.mono {G : List HP} : ∀ {J J' : Im} {h h' : Hp}, Im.le J J' → h.le h' → Sat G J h → Sat G J' h' := by
  induction G with
  | nil => intros; trivial
  | cons A G ih =>
    rintro J J' h h' hj hh ⟨h1, h2, d, a, b, p, s⟩
    exact ⟨h1, h2, d, Hp.le_trans a hh, Hp.le_trans b hh, A.mono _ _ _ hj p, ih hj (Hp.le_refl _) s⟩

theorem Sat.perm {G G' : List HP} (hp : G.Perm G') : ∀ {J : Im} {h : Hp}, Sat G J h → Sat G' J h := by
  induction hp with
  | nil => exact id
  | cons A _ ih =>
    rintro J h ⟨h1, h2, d, a, b, p, s⟩
    exact ⟨h1, h2, d, a, b, p, ih s⟩
  | swap A B G =>
    rintro J h ⟨h1, h2, d, a, b, p, h3, h4, d', a', b', p', s⟩
    have d31 : h3.disj h1 := (d.mono (Hp.le_refl _) a').symm
    have d14 : h1.disj h4 := d.mono (Hp.le_refl _) b'
    exact ⟨h3, h1.union h4, (Hp.disj.union d31.symm d'.symm).symm, Hp.le_trans a' b, Hp.union_le a (Hp.le_trans b' b), p', h1, h4, d14, Hp.union_left _ _, Hp.union_right d14, p, s⟩
  | trans _ _ i1 i2 => exact fun s => i2 (i1 s)

theorem Sat.append {G G' : List HP} : ∀ {J : Im} {h1 h2 h : Hp}, h1.disj h2 → h1.le h → h2.le h → Sat G J h1 → Sat G' J h2 → Sat (G ++ G') J h := by
  induction G with
  | nil => intro J h1 h2 h _ _ b _ s; exact s.mono (Im.le_refl _) b
  | cons A G ih =>
    rintro J h1 h2 h d a b ⟨h3, h4, d', a', b', p, s⟩ s'
    have d42 : h4.disj h2 := d.mono b' (Hp.le_refl _)
    have d32 : h3.disj h2 := d.mono a' (Hp.le_refl _)
    exact ⟨h3, h4.union h2, (Hp.disj.union d'.symm d32.symm).symm, Hp.le_trans a' a, Hp.union_le (Hp.le_trans b' a) b, p, ih d42 (Hp.union_left _ _) (Hp.union_right d42) s s'⟩

theorem Sat.split {G G' : List HP} : ∀ {J : Im} {h : Hp}, Sat (G ++ G') J h → ∃ h1 h2, h1.disj h2 ∧ h1.le h ∧ h2.le h ∧ Sat G J h1 ∧ Sat G' J h2 := by
  induction G with
  | nil => intro J h s; exact ⟨fun _ _ => none, h, fun _ _ => .inl rfl, (by intro b o x e; simp at e), Hp.le_refl _, trivial, s⟩
  | cons A G ih =>
    rintro J h ⟨h3, h4, d', a', b', p, s⟩
    obtain ⟨k1, k2, d, a, b, s1, s2⟩ := ih s
    have d31 : h3.disj k1 := d'.mono (Hp.le_refl _) a
    have d32 : h3.disj k2 := d'.mono (Hp.le_refl _) b
    exact ⟨h3.union k1, k2, Hp.disj.union d32 d, Hp.union_le a' (Hp.le_trans a b'), Hp.le_trans b b', ⟨h3, k1, d31, Hp.union_left _ _, Hp.union_right d31, p, s1⟩, s2⟩

/-- What the world has to do with the two maps. -/
structure Good (w0 : World) (J : Im) (h : Hp) (w : World) : Prop where
  below : Below w0.heap.size w0 w
  im : ∀ b o v, J b o = some v → w.cell? ⟨b, o, none⟩ = some v
  cell : ∀ b o v, h b o = some (.cell v) → w.cell? ⟨b, o, none⟩ = some v ∧ w.frozen? ⟨b, o, none⟩ = false
  obj : ∀ b o x, h b o = some (.obj x) → w.heap[b]? = some x ∧ ∀ c e f, x ≠ .cells c e f
  base : ∀ b o x, h b o = some x → w0.heap.size ≤ b
  dis : ∀ b o, J b o = none ∨ h b o = none

def Holds (w0 : World) (D : List PP) (G : List HP) (w : World) : Prop :=
  ∃ J h, Good w0 J h w ∧ (∀ p ∈ D, p.p J) ∧ Sat G J h

def nth {α : Type} : List α → Nat → Option α
  | [], _ => none
  | x :: _, 0 => some x
  | _ :: l, n + 1 => nth l n
theorem nth_mem {α : Type} {l : List α} : ∀ {i : Nat} {x : α}, nth l i = some x → x ∈ l := by
  induction l with
  | nil => intro i x h; cases h
  | cons y l ih =>
    intro i x h
    cases i with
    | zero => cases h; exact List.mem_cons_self
    | succ i => exact List.mem_cons_of_mem _ (ih h)
def del {α : Type} : List α → Nat → List α
  | [], _ => []
  | _ :: l, 0 => l
  | x :: l, n + 1 => x :: del l n
theorem perm_nth {α : Type} {l : List α} : ∀ {i : Nat} {x : α}, nth l i = some x → l.Perm (x :: del l i) := by
  induction l with
  | nil => intro i x h; cases h
  | cons y l ih =>
    intro i x h
    cases i with
    | zero => cases h; exact List.Perm.refl _
    | succ i => exact ((ih h).cons y).trans (List.Perm.swap _ _ _)
def put {α : Type} : List α → Nat → α → List α
  | [], _, _ => []
  | _ :: l, 0, y => y :: l
  | x :: l, n + 1, y => x :: put l n y
theorem perm_put {α : Type} {l : List α} : ∀ {i : Nat} {x : α} (y : α), nth l i = some x → (put l i y).Perm (y :: del l i) := by
  induction l with
  | nil => intro i x y h; cases h
  | cons z l ih =>
    intro i x y h
    cases i with
    | zero => exact List.Perm.refl _
    | succ i => exact ((ih y h).cons z).trans (List.Perm.swap _ _ _)

/-- Take the tokens at places is out of G, in that order (each place counted in what is left). -/
def picks {α : Type} : List Nat → List α → Option (List α × List α)
  | [], l => some ([], l)
  | i :: is, l => match nth l i with
    | none => none
    | some x => match picks is (del l i) with
      | none => none
      | some (a, b) => some (x :: a, b)
theorem picks_perm {α : Type} : ∀ {is : List Nat} {l a b : List α}, picks is l = some (a, b) → l.Perm (a ++ b) := by
  intro is
  induction is with
  | nil => intro l a b h; cases h; exact List.Perm.refl _
  | cons i is ih =>
    intro l a b h
    simp only [picks] at h
    split at h
    · cases h
    · rename_i x hx
      split at h
      · cases h
      · rename_i a' b' hp
        cases h
        exact (perm_nth hx).trans ((ih hp).cons x)

theorem Holds.perm {w0 : World} {D : List PP} {G G' : List HP} {w : World} (h : Holds w0 D G w) (hp : G.Perm G') : Holds w0 D G' w :=
  let ⟨J, k, g, d, s⟩ := h; ⟨J, k, g, d, s.perm hp⟩
theorem Holds.weakD {w0 : World} {D D' : List PP} {G : List HP} {w : World} (h : Holds w0 D G w) (hp : ∀ p ∈ D', p ∈ D) : Holds w0 D' G w :=
  let ⟨J, k, g, d, s⟩ := h; ⟨J, k, g, fun p q => d p (hp p q), s⟩
theorem Holds.drop {w0 : World} {D : List PP} {A : HP} {G : List HP} {w : World} (h : Holds w0 D (A :: G) w) : Holds w0 D G w :=
  let ⟨J, k, g, d, _, _, _, _, b, _, s⟩ := h; ⟨J, k, g, d, s.mono (Im.le_refl _) b⟩
theorem Holds.learn {w0 : World} {D : List PP} {G : List HP} {w : World} (q : PP) (h : Holds w0 D G w) (hq : ∀ J, (∀ p ∈ D, p.p J) → q.p J) : Holds w0 (q :: D) G w :=
  let ⟨J, k, g, d, s⟩ := h; ⟨J, k, g, fun p hp => by rcases List.mem_cons.1 hp with rfl | hp; exact hq J d; exact d p hp, s⟩

theorem Good.drew {w0 : World} {J : Im} {h : Hp} {w : World} (g : Good w0 J h w) (n : Nat) : Good w0 J h { w with drawn := n } :=
  ⟨⟨g.below.os, g.below.tape, g.below.output, g.below.size, g.below.block⟩, g.im, g.cell, g.obj, g.base, g.dis⟩
theorem Holds.drew {w0 : World} {D : List PP} {G : List HP} {w : World} (h : Holds w0 D G w) (n : Nat) : Holds w0 D G { w with drawn := n } :=
  let ⟨J, k, g, d, s⟩ := h; ⟨J, k, g.drew n, d, s⟩

/-- The cells cs from place o of block b on, owned. -/
def At (b o : Nat) (cs : List Value) : HP where
  p _ h := ∀ j v, cs[j]? = some v → h b (o + j) = some (.cell v)
  mono _ _ _ _ p := p
/-- The cells cs from place o of block b on, never written any more. -/
def Ro (b o : Nat) (cs : List Value) : PP where
  p J := ∀ j v, cs[j]? = some v → J b (o + j) = some v
  mono _ _ hj p j v e := hj _ _ _ (p j v e)
/-- A plain fact. -/
def Pu (φ : Prop) : PP where
  p _ := φ
  mono _ _ _ p := p
/-- An object that is no row of cells, owned. -/
def Ob (b : Nat) (x : Obj) : HP where
  p _ h := ∀ o, h b o = some (.obj x)
  mono _ _ _ _ p := p

/-- A world has a row of cells. -/
def Has (b o : Nat) (cs : List Value) (w : World) : Prop := ∀ j v, cs[j]? = some v → w.cell? ⟨b, o + j, none⟩ = some v

theorem Holds.at_ {w0 : World} {D : List PP} {G : List HP} {w : World} (h : Holds w0 D G w) {i b o : Nat} {cs : List Value} (hi : nth G i = some (At b o cs)) :
    Has b o cs w ∧ (∀ j, j < cs.length → w.frozen? ⟨b, o + j, none⟩ = false) ∧ (0 < cs.length → w0.heap.size ≤ b) := by
  obtain ⟨J, k, g, d, s⟩ := h
  obtain ⟨h1, h2, _, a, _, p, _⟩ := s.perm (perm_nth hi)
  have key : ∀ j v, cs[j]? = some v → k b (o + j) = some (.cell v) := fun j v e => a _ _ _ (p j v e)
  refine ⟨fun j v e => (g.cell _ _ _ (key j v e)).1, fun j hj => (g.cell _ _ _ (key j _ (List.getElem?_eq_getElem hj))).2, fun hl => g.base _ _ _ (key 0 _ (List.getElem?_eq_getElem hl))⟩
theorem Holds.ro {w0 : World} {D : List PP} {G : List HP} {w : World} (h : Holds w0 D G w) {i b o : Nat} {cs : List Value} (hi : nth D i = some (Ro b o cs)) : Has b o cs w := by
  obtain ⟨J, k, g, d, _⟩ := h
  exact fun j v e => g.im _ _ _ (d _ (nth_mem hi) j v e)
theorem Holds.pu {w0 : World} {D : List PP} {G : List HP} {w : World} (h : Holds w0 D G w) {i : Nat} {φ : Prop} (hi : nth D i = some (Pu φ)) : φ := by
  obtain ⟨J, k, g, d, _⟩ := h
  exact d _ (nth_mem hi)

theorem lt_of_im {w0 : World} {J : Im} {h : Hp} {w : World} (g : Good w0 J h w) {b o : Nat} {v : Value} (e : J b o = some v) : b < w.heap.size :=
  World.block_lt_of_cell? w _ (g.im _ _ _ e)
theorem lt_of_hp {w0 : World} {J : Im} {h : Hp} {w : World} (g : Good w0 J h w) {b o : Nat} {x : Itm} (e : h b o = some x) : b < w.heap.size := by
  cases x with
  | cell v => exact World.block_lt_of_cell? w _ (g.cell _ _ _ e).1
  | obj x => exact (Array.getElem?_eq_some_iff.1 (g.obj _ _ _ e).1).1

/-- A new block. -/
theorem Good.alloc {w0 : World} {J : Im} {h : Hp} {w : World} (g : Good w0 J h w) (cs : Array Value) (t : TypeId) :
    Good w0 J (fun b o => if b = w.heap.size then (cs[o]?).map .cell else h b o) (w.alloc (.cells cs t)) := by
  have hsz := g.below.size
  refine ⟨g.below.alloc hsz _, fun b o v e => ?_, fun b o v e => ?_, fun b o x e => ?_, fun b o x e => ?_, fun b o => ?_⟩
  · rw [World.cell?_alloc_lt _ _ _ (lt_of_im g e)]; exact g.im _ _ _ e
  · by_cases hb : b = w.heap.size
    · subst hb
      simp only [if_true] at e
      cases hc : cs[o]? with
      | none => simp [hc] at e
      | some u =>
        simp [hc] at e
        subst e
        exact ⟨by rw [World.cell?_alloc_new]; exact hc, by rw [World.frozen?_alloc_new]⟩
    · simp only [hb, if_false] at e
      have hl := lt_of_hp g e
      exact ⟨by rw [World.cell?_alloc_lt _ _ _ hl]; exact (g.cell _ _ _ e).1, by rw [World.frozen?_alloc_old _ _ _ (Nat.ne_of_lt hl)]; exact (g.cell _ _ _ e).2⟩
  · by_cases hb : b = w.heap.size
    · subst hb
      simp only [if_true] at e
      cases hc : cs[o]? <;> simp [hc] at e
    · simp only [hb, if_false] at e
      refine ⟨?_, (g.obj _ _ _ e).2⟩
      rw [Below.heap_alloc _ _ _ (lt_of_hp g e)]
      exact (g.obj _ _ _ e).1
  · by_cases hb : b = w.heap.size
    · subst hb; exact hsz
    · simp only [hb, if_false] at e; exact g.base _ _ _ e
  · by_cases hb : b = w.heap.size
    · subst hb
      left
      cases e : J w.heap.size o with
      | none => rfl
      | some v => exact absurd (lt_of_im g e) (Nat.lt_irrefl _)
    · simp only [hb, if_false]; exact g.dis _ _

theorem Holds.alloc {w0 : World} {D : List PP} {G : List HP} {w : World} (h : Holds w0 D G w) (cs : List Value) (t : TypeId) :
    Holds w0 D (At w.heap.size 0 cs :: G) (w.alloc (.cells cs.toArray t)) := by
  obtain ⟨J, k, g, d, s⟩ := h
  have fresh : ∀ o, k w.heap.size o = none := fun o => by
    cases e : k w.heap.size o with
    | none => rfl
    | some v => exact absurd (lt_of_hp g e) (Nat.lt_irrefl _)
  refine ⟨J, _, g.alloc cs.toArray t, d, fun b o => if b = w.heap.size then (cs.toArray[o]?).map .cell else none, k, fun b o => ?_, fun b o x e => ?_, fun b o x e => ?_, fun j v e => ?_, s⟩
  · by_cases hb : b = w.heap.size
    · subst hb; right; exact fresh o
    · left; simp [hb]
  · by_cases hb : b = w.heap.size
    · subst hb; simpa using e
    · simp [hb] at e
  · by_cases hb : b = w.heap.size
    · subst hb; rw [fresh] at e; cases e
    · simp [hb, e]
  · simp [e]

/-- A cell of one's own is written. -/
theorem Good.set {w0 : World} {J : Im} {h : Hp} {w : World} (g : Good w0 J h w) {b o : Nat} {u : Value} (hk : h b o = some (.cell u)) (v : Value) :
    Good w0 J (fun b' o' => if b' = b ∧ o' = o then some (.cell v) else h b' o') (w.setCell ⟨b, o, none⟩ v) := by
  have hc := (g.cell _ _ _ hk).1
  refine ⟨g.below.setCell (p := ⟨b, o, none⟩) (g.base _ _ _ hk) v, fun b' o' x e => ?_, fun b' o' x e => ?_, fun b' o' x e => ?_, fun b' o' x e => ?_, fun b' o' => ?_⟩
  · have hne : (⟨b, o, none⟩ : Addr) ≠ ⟨b', o', none⟩ := by
      intro hh
      cases hh
      rcases g.dis b o with q | q
      · rw [q] at e; cases e
      · rw [q] at hk; cases hk
    rw [World.cell?_setCell_other _ _ _ _ hne]
    exact g.im _ _ _ e
  · by_cases hb : b' = b ∧ o' = o
    · obtain ⟨rfl, rfl⟩ := hb
      simp at e
      subst e
      exact ⟨World.cell?_setCell_same _ _ _ hc, by rw [World.frozen?_setCell]; exact (g.cell _ _ _ hk).2⟩
    · simp only [hb, if_false] at e
      have hne : (⟨b, o, none⟩ : Addr) ≠ ⟨b', o', none⟩ := by
        intro hh
        cases hh
        exact hb ⟨rfl, rfl⟩
      exact ⟨by rw [World.cell?_setCell_other _ _ _ _ hne]; exact (g.cell _ _ _ e).1, by rw [World.frozen?_setCell]; exact (g.cell _ _ _ e).2⟩
  · by_cases hb : b' = b ∧ o' = o
    · simp [hb] at e
    · simp only [hb, if_false] at e
      have hne : b' ≠ b := by
        rintro rfl
        have h1 := (g.obj _ _ _ e)
        have h2 := hc
        unfold World.cell? at h2
        rw [h1.1] at h2
        cases x <;> simp_all
      rw [Below.heap_setCell _ _ _ _ hne]
      exact g.obj _ _ _ e
  · by_cases hb : b' = b ∧ o' = o
    · rw [hb.1]; exact g.base _ _ _ hk
    · simp only [hb, if_false] at e; exact g.base _ _ _ e
  · by_cases hb : b' = b ∧ o' = o
    · obtain ⟨rfl, rfl⟩ := hb
      rcases g.dis b' o' with q | q
      · exact .inl q
      · rw [q] at hk; cases hk
    · simp only [hb, if_false]; exact g.dis _ _

theorem Holds.set1 {w0 : World} {D : List PP} {G : List HP} {w : World} (h : Holds w0 D G w) {i b o : Nat} {cs : List Value} (hi : nth G i = some (At b o cs))
    {j : Nat} (hj : j < cs.length) (v : Value) : Holds w0 D (put G i (At b o (cs.set j v))) (w.setCell ⟨b, o + j, none⟩ v) := by
  obtain ⟨J, k, g, d, s⟩ := h
  obtain ⟨h1, h2, dd, a, b2, p, s2⟩ := s.perm (perm_nth hi)
  have hk1 := p j _ (List.getElem?_eq_getElem hj)
  have hk2 : h2 b (o + j) = none := by
    rcases dd b (o + j) with q | q
    · rw [hk1] at q; cases q
    · exact q
  refine ⟨J, _, g.set (a _ _ _ hk1) v, d, Sat.perm (perm_put _ hi).symm ⟨fun b' o' => if b' = b ∧ o' = o + j then some (.cell v) else h1 b' o', h2, fun b' o' => ?_, fun b' o' x e => ?_, fun b' o' x e => ?_, fun m x e => ?_, s2⟩⟩
  · by_cases hb : b' = b ∧ o' = o + j
    · right; rw [hb.1, hb.2]; exact hk2
    · simp only [hb, if_false]; exact dd _ _
  · by_cases hb : b' = b ∧ o' = o + j
    · simpa [hb] using e
    · simp only [hb, if_false] at e ⊢; exact a _ _ _ e
  · by_cases hb : b' = b ∧ o' = o + j
    · rw [hb.1, hb.2, hk2] at e; cases e
    · simp only [hb, if_false]; exact b2 _ _ _ e
  · by_cases hm : m = j
    · subst hm
      rw [List.getElem?_set_self hj] at e
      simp at e
      simp [e]
    · rw [List.getElem?_set_ne (Ne.symm hm)] at e
      have : ¬ (o + m = o + j) := by omega
      simp only [this, and_false, if_false]
      exact p _ _ e

/-- A token is given up: its cells are never written any more. -/
theorem Holds.keep {w0 : World} {D : List PP} {G : List HP} {w : World} (h : Holds w0 D G w) {i b o : Nat} {cs : List Value} (hi : nth G i = some (At b o cs)) :
    Holds w0 (Ro b o cs :: D) (del G i) w := by
  obtain ⟨J, k, g, d, s⟩ := h
  obtain ⟨h1, h2, dd, a, b2, p, s2⟩ := s.perm (perm_nth hi)
  let J' : Im := fun b' o' => match J b' o' with
    | some v => some v
    | none => match h1 b' o' with
      | some (.cell v) => some v
      | _ => none
  have hle : Im.le J J' := fun b' o' v e => by simp [J', e]
  refine ⟨J', h2, ⟨g.below, fun b' o' v e => ?_, fun b' o' v e => g.cell _ _ _ (b2 _ _ _ e), fun b' o' v e => g.obj _ _ _ (b2 _ _ _ e), fun b' o' v e => g.base _ _ _ (b2 _ _ _ e), fun b' o' => ?_⟩, fun q hq => ?_, s2.mono hle (Hp.le_refl _)⟩
  · simp only [J'] at e
    split at e
    · rename_i u hu; cases e; exact g.im _ _ _ hu
    · split at e
      · rename_i u hu; cases e; exact (g.cell _ _ _ (a _ _ _ hu)).1
      · cases e
  · rcases dd b' o' with q | q
    · rcases g.dis b' o' with r | r
      · left; simp [J', r, q]
      · right
        cases e : h2 b' o' with
        | none => rfl
        | some x => rw [b2 _ _ _ e] at r; cases r
    · right; exact q
  · rcases List.mem_cons.1 hq with rfl | hq
    · intro j v e
      have := p j v e
      simp only [J']
      cases hJ : J b (o + j) with
      | none => simp [this]
      | some u =>
        have := g.cell _ _ _ (a _ _ _ this)
        have h3 := g.im _ _ _ hJ
        rw [this.1] at h3
        simpa using h3.symm
    · exact q.mono _ _ hle (d _ hq)
end Go.Proofs.YtpdoioeckiiegaaGreatDoor.Wl
