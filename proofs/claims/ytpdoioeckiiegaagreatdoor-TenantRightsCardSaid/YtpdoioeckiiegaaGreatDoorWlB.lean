/- Frames as association lists, and what each operation that leaves the world alone yields. -/
import Derived.Test.YtpdoioeckiiegaaGreatDoorWlA
set_option linter.unusedSimpArgs false
set_option linter.unusedVariables false
namespace Go.Proofs.YtpdoioeckiiegaaGreatDoor.Wl
open Go.RowKit

abbrev Env := List (Nat × Value)
def get : Env → Nat → Option Value
  | [], _ => none
  | (u, v) :: r, t => bif Nat.beq u t then some v else get r t
def opv (e : Env) : Operand → Option Value
  | .tmp t => get e t
  | .const v => some v
  | .global g => some (.pointer (some ⟨g, 0, none⟩))
  | .func f => some (.func (.func f) #[] #[])
def opvs (e : Env) : List Operand → Option (List Value)
  | [] => some []
  | x :: l => match opv e x with
    | none => none
    | some v => match opvs e l with
      | none => none
      | some vs => some (v :: vs)
structure Fits (n : Nat) (e : Env) (a : Act) : Prop where
  defers : a.defers = []
  size : a.tmps.size = n
  get : ∀ t v, get e t = some v → a.tmps[t]? = some v
def Ops (e : Env) (ρ : Operand → Value) : Prop := ∀ x v, opv e x = some v → ρ x = v
theorem Fits.ops {n : Nat} {e : Env} {a : Act} (h : Fits n e a) : Ops e a.eval := by
  intro x v hx
  cases x with
  | tmp t => simp only [opv] at hx; simp [Act.eval, h.get t v hx]
  | const c => cases hx; rfl
  | global g => cases hx; rfl
  | func f => cases hx; rfl
theorem Ops.list {e : Env} {ρ : Operand → Value} (h : Ops e ρ) : ∀ {l : List Operand} {vs : List Value}, opvs e l = some vs → l.map ρ = vs := by
  intro l
  induction l with
  | nil => intro vs hv; cases hv; rfl
  | cons x l ih =>
    intro vs hv
    simp only [opvs] at hv
    split at hv
    · cases hv
    · rename_i v hx
      split at hv
      · cases hv
      · rename_i ws hw
        cases hv
        rw [List.map_cons, h x v hx, ih hw]
theorem Fits.put {n : Nat} {e : Env} {a : Act} (h : Fits n e a) {d : Nat} (hd : Nat.blt d n = true) (v : Value) : Fits n ((d, v) :: e) (a.put (some d) v) := by
  have hd' : d < n := by simpa [Nat.blt_eq] using hd
  refine ⟨h.defers, by simp [Act.put, h.size], fun t u ht => ?_⟩
  simp only [Wl.get] at ht
  by_cases hdt : d = t
  · subst hdt
    simp at ht
    subst ht
    simp [Act.put, Array.getElem?_setIfInBounds, h.size, hd']
  · have : Nat.beq d t = false := by
      cases hb : Nat.beq d t with
      | false => rfl
      | true => exact absurd (Nat.eq_of_beq_eq_true hb) hdt
    rw [this] at ht
    simp only [cond_false] at ht
    simp only [Act.put]
    rw [Array.getElem?_setIfInBounds_ne hdt]
    exact h.get t u ht
/-- Fewer slots are known. -/
def sub (e : Env) : List (Nat × Value) → Prop
  | [] => True
  | (t, v) :: r => get e t = some v ∧ sub e r
theorem sub.get {e : Env} : ∀ {e' : Env}, sub e e' → ∀ t v, Wl.get e' t = some v → Wl.get e t = some v := by
  intro e'
  induction e' with
  | nil => intro _ t v h; cases h
  | cons p r ih =>
    obtain ⟨u, x⟩ := p
    rintro ⟨h1, h2⟩ t v h
    simp only [Wl.get] at h
    cases hb : Nat.beq u t with
    | true =>
      rw [hb] at h
      simp at h
      rw [← Nat.eq_of_beq_eq_true hb, h1, h]
    | false =>
      rw [hb] at h
      exact ih h2 t v h
theorem Fits.sub {n : Nat} {e e' : Env} {a : Act} (h : Fits n e a) (hs : sub e e') : Fits n e' a := ⟨h.defers, h.size, fun t v ht => h.get t v (hs.get t v ht)⟩
/-- Of the known slots those at ts. -/
def keepEnv (e : Env) : List Nat → Option Env
  | [] => some []
  | t :: ts => match get e t with
    | none => none
    | some v => match keepEnv e ts with
      | none => none
      | some r => some ((t, v) :: r)
theorem keepEnv_sub {e : Env} : ∀ {ts : List Nat} {e' : Env}, keepEnv e ts = some e' → sub e e' := by
  intro ts
  induction ts with
  | nil => intro e' h; cases h; trivial
  | cons t ts ih =>
    intro e' h
    simp only [keepEnv] at h
    split at h
    · cases h
    · rename_i v hv
      split at h
      · cases h
      · rename_i r hr
        cases h
        exact ⟨hv, ih hr⟩

/-- The operation yields v in every world that meets C, and leaves the world as it is. -/
def Evals (P : Program) (e : Env) (o : Oper) (v : Value) (C : World → Prop) : Prop :=
  ∀ ρ, Ops e ρ → ∀ w, C w → (execOp ρ o).run P w = .ok (.value v) w

section
variable {P : Program} {e : Env} {o : Oper} {C : World → Prop}
theorem ev_move {x : Operand} {v : Value} (ho : o.op = .move x) (hx : opv e x = some v) : Evals P e o v C := by
  intro ρ hρ w _; simp [execOp, ho, hρ x v hx]
theorem ev_assign {x : Operand} {v : Value} (ho : o.op = .assign x) (hx : opv e x = some v) : Evals P e o v C := by
  intro ρ hρ w _; simp [execOp, ho, hρ x v hx]
theorem ev_pick {c x y : Operand} {b : Bool} {v u : Value} (ho : o.op = .pick c x y) (hc : opv e c = some (.bool b)) (hx : opv e x = some v) (hy : opv e y = some u) : Evals P e o (bif b then v else u) C := by
  intro ρ hρ w _; cases b <;> simp [execOp, ho, hρ _ _ hc, hρ _ _ hx, hρ _ _ hy, asBool]
theorem ev_pick_t {c x y : Operand} {v : Value} (ho : o.op = .pick c x y) (hc : opv e c = some (.bool true)) (hx : opv e x = some v) : Evals P e o v C := by
  intro ρ hρ w _; simp [execOp, ho, hρ _ _ hc, hρ _ _ hx, asBool]
theorem ev_pick_f {c x y : Operand} {v : Value} (ho : o.op = .pick c x y) (hc : opv e c = some (.bool false)) (hx : opv e y = some v) : Evals P e o v C := by
  intro ρ hρ w _; simp [execOp, ho, hρ _ _ hc, hρ _ _ hx, asBool]
theorem ev_extract {x : Operand} {i : Nat} {vs : List Value} {v : Value} (ho : o.op = .extract x i) (hx : opv e x = some (.tuple vs.toArray)) (hi : nth vs i = some v) : Evals P e o v C := by
  have key : vs[i]? = some v := by
    have : ∀ (l : List Value) (i : Nat), nth l i = l[i]? := by
      intro l
      induction l with
      | nil => intro i; rfl
      | cons y l ih => intro i; cases i <;> simp [nth, ih]
    rw [← this]; exact hi
  intro ρ hρ w _; simp [execOp, ho, hρ _ _ hx, Instr.extract, key]
theorem ev_nilCheck {x : Operand} {a : Addr} (ho : o.op = .nilCheck x) (hx : opv e x = some (.pointer (some a))) : Evals P e o (.pointer (some a)) C := by
  intro ρ hρ w _; simp [execOp, ho, hρ _ _ hx]
theorem nth_eq {α : Type} (l : List α) : ∀ (i : Nat), nth l i = l[i]? := by
  induction l with
  | nil => intro i; rfl
  | cons y l ih => intro i; cases i <;> simp [nth, ih]

/-- A field's place. -/
theorem ev_fieldAddr {s : TypeId} {x : Operand} {k : Nat} {b p : Nat} {fs : Array Field} {f : Field} {n q : Nat} (ho : o.op = .fieldAddr s x k) (hx : opv e x = some (.pointer (some ⟨b, p, none⟩)))
    (hs : ∀ w, (underlying s).run P w = .ok (.struct fs) w) (hf : nth fs.toList k = some f) (hn : ∀ w, (sizeOf f.type).run P w = .ok n w) (hz : Nat.blt 0 n = true) (hq : p + f.offset = q) :
    Evals P e o (.pointer (some ⟨b, q, none⟩)) C := by
  have hf' : fs[k]? = some f := by rw [nth_eq] at hf; simpa using hf
  have hn0 : n ≠ 0 := by have : 0 < n := by simpa [Nat.blt_eq] using hz
                         omega
  subst hq
  intro ρ hρ w _
  by_cases h0 : f.offset = 0 <;> simp [execOp, ho, hρ _ _ hx, Instr.fieldAt, hs, hf', Instr.sureAddr, fieldPlace, hn, hn0, Addr.add, h0]

/-- What a load of a variable of one cell, or of many, yields. -/
theorem ev_load1 {t : TypeId} {x : Operand} {b p : Nat} {v : Value} (ho : o.op = .load t x) (hx : opv e x = some (.pointer (some ⟨b, p, none⟩)))
    (ht : ∀ w, (isAgg t).run P w = .ok false w) (hC : ∀ w, C w → w.cell? ⟨b, p, none⟩ = some v) : Evals P e o v C := by
  intro ρ hρ w hw
  simp [execOp, ho, hρ _ _ hx, Instr.loadAt, Instr.sureAddr, loadVar, ht, load, Sem.run, hC w hw]
theorem ev_loadN {t : TypeId} {x : Operand} {b p : Nat} {cs : List Value} (ho : o.op = .load t x) (hx : opv e x = some (.pointer (some ⟨b, p, none⟩)))
    (ht : ∀ w, (isAgg t).run P w = .ok true w) (hn : ∀ w, (sizeOf t).run P w = .ok cs.length w) (hC : ∀ w, C w → Has b p cs w) : Evals P e o (.agg cs.toArray) C := by
  intro ρ hρ w hw
  have hl := run_loadCells_list (P := P) (w := w) ⟨b, p, none⟩ cs (fun j v hj => by
    have := hC w hw j v hj
    have ha : (⟨b, p, none⟩ : Addr).add j = ⟨b, p + j, none⟩ := by unfold Addr.add; split <;> simp_all
    rw [ha]; exact this)
  simp [execOp, ho, hρ _ _ hx, Instr.loadAt, Instr.sureAddr, loadVar, ht, hn, hl]
end
end Go.Proofs.YtpdoioeckiiegaaGreatDoor.Wl
