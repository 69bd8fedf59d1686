/- The rules by which a walk goes from one operation to the next, and from one piece of code to the next. -/
import Derived.Test.YtpdoioeckiiegaaGreatDoorWlB
import Derived.Test.YtpdoioeckiiegaaGreatDoorWlM
set_option linter.unusedSimpArgs false
set_option linter.unusedVariables false
namespace Go.Proofs.YtpdoioeckiiegaaGreatDoor.Wl
open Go.RowKit

abbrev Post := Exit → Act → World → Prop
/-- From the state on, K. -/
def WK (w0 : World) (n : Nat) (K : Act → World → Prop) (D : List PP) (G : List HP) (e : Env) : Prop := ∀ a w, Fits n e a → Holds w0 D G w → K a w
/-- From the state on, the code comes to Q. -/
abbrev WS (P : Program) (w0 : World) (n : Nat) (Q : Post) (D : List PP) (G : List HP) (e : Env) (c : Code) : Prop := WK w0 n (c.wp P Q) D G e
/-- Q holds in the state. -/
abbrev WQ (w0 : World) (n : Nat) (Q : Post) (D : List PP) (G : List HP) (e : Env) (x : Exit) : Prop := WK w0 n (Q x) D G e
/-- The operations of a region, in their order. -/
abbrev WO (P : Program) (w0 : World) (n : Nat) (Q : Post) (ops : Array Oper) (D : List PP) (G : List HP) (e : Env) (l : List Nat) : Prop := WK w0 n (wpOps P ops Q l) D G e

/-- A state, all of it. -/
structure St where
  D : List PP
  G : List HP
  e : Env

section code
variable {P : Program} {w0 : World} {n : Nat} {Q : Post} {D : List PP} {G : List HP} {e : Env}
theorem s_seq {x y : Code} (h : WS P w0 n (Exit.then (y.wp P Q) Q) D G e x) : WS P w0 n Q D G e (.seq x y) := fun a w hf hh => wp_seq (h a w hf hh)
theorem s_skip (h : WQ w0 n Q D G e .normal) : WS P w0 n Q D G e .skip := fun a w hf hh => wp_skip (h a w hf hh)
theorem s_ret (h : WQ w0 n Q D G e .ret) : WS P w0 n Q D G e .ret := fun a w hf hh => wp_ret (h a w hf hh)
theorem s_exit {id : Nat} (h : WQ w0 n Q D G e (.exit id)) : WS P w0 n Q D G e (.exit id) := fun a w hf hh => wp_exit (h a w hf hh)
theorem s_block {id : Nat} {c : Code} (h : WS P w0 n (Exit.inBlock id Q) D G e c) : WS P w0 n Q D G e (.block id c) := fun a w hf hh => wp_block (h a w hf hh)
theorem s_cond {c : Operand} {x y : Code} {b : Bool} (hc : opv e c = some (.bool b)) (ht : b = true → WS P w0 n Q D G e x) (hf : b = false → WS P w0 n Q D G e y) : WS P w0 n Q D G e (.cond c x y) := by
  intro a w hfit hh
  cases b with
  | true => exact wp_cond (hfit.ops _ _ hc) (ht rfl a w hfit hh)
  | false => exact wp_cond (hfit.ops _ _ hc) (hf rfl a w hfit hh)
theorem s_cond_t {c : Operand} {x y : Code} (hc : opv e c = some (.bool true)) (ht : WS P w0 n Q D G e x) : WS P w0 n Q D G e (.cond c x y) :=
  fun a w hfit hh => wp_cond_true (hfit.ops _ _ hc) (ht a w hfit hh)
theorem s_cond_f {c : Operand} {x y : Code} (hc : opv e c = some (.bool false)) (ht : WS P w0 n Q D G e y) : WS P w0 n Q D G e (.cond c x y) :=
  fun a w hfit hh => wp_cond_false (hfit.ops _ _ hc) (ht a w hfit hh)
theorem q_then {y : Code} (h : WS P w0 n Q D G e y) : WQ w0 n (Exit.then (y.wp P Q) Q) D G e .normal := h
theorem q_then_r {K : Act → World → Prop} (h : WQ w0 n Q D G e .ret) : WQ w0 n (Exit.then K Q) D G e .ret := h
theorem q_then_x {K : Act → World → Prop} {id : Nat} (h : WQ w0 n Q D G e (.exit id)) : WQ w0 n (Exit.then K Q) D G e (.exit id) := h
theorem q_block {id : Nat} (h : WQ w0 n Q D G e .normal) : WQ w0 n (Exit.inBlock id Q) D G e .normal := h
theorem q_block_r {id : Nat} (h : WQ w0 n Q D G e .ret) : WQ w0 n (Exit.inBlock id Q) D G e .ret := h
theorem q_block_x {id : Nat} (h : WQ w0 n Q D G e .normal) : WQ w0 n (Exit.inBlock id Q) D G e (.exit id) := by
  intro a w hf hh; simp only [Exit.inBlock, if_true]; exact h a w hf hh
theorem q_block_y {id id' : Nat} (hne : Nat.beq id' id = false) (h : WQ w0 n Q D G e (.exit id')) : WQ w0 n (Exit.inBlock id Q) D G e (.exit id') := by
  have : id' ≠ id := fun q => by subst q; simp at hne
  intro a w hf hh; simp only [Exit.inBlock, if_neg this]; exact h a w hf hh

/-- A loop that has begun. -/
def Lw (P : Program) (c : Code) (Q : Post) (a : Act) (w : World) : Prop :=
  ∀ (b : Frame) (k : List Item) (cs : List Frame), ∃ x a' w', Q x a' w' ∧ Arrives P (lone (b.at a (.code c :: .inLoop c :: k)) cs w) b k cs x a' w'
theorem Lw.wp {c : Code} {a : Act} {w : World} (h : Lw P c Q a w) : (Code.loop c).wp P Q a w := by
  intro b k cs
  obtain ⟨x, a', w', q, r⟩ := h b k cs
  exact ⟨x, a', w', q, .of_steps (.one step_loop) r⟩
theorem Lw.unroll {c : Code} {a : Act} {w : World} (h : c.wp P (Exit.then (Lw P c Q) Q) a w) : Lw P c Q a w := by
  intro b k cs
  obtain ⟨x, a₁, w₁, hq, harr⟩ := h b (.inLoop c :: k) cs
  cases x with
  | normal =>
    obtain ⟨x, a', w', q, r⟩ := hq b k cs
    exact ⟨x, a', w', q, .of_steps (Steps.trans harr (.one step_inLoop)) r⟩
  | exit id => exact ⟨_, a₁, w₁, hq, .pass (x := .inLoop c) rfl (fun _ _ => .inl (by simp)) harr⟩
  | goto l => exact ⟨_, a₁, w₁, hq, .pass (x := .inLoop c) rfl (fun _ _ => .inl (by simp)) harr⟩
  | ret => exact ⟨_, a₁, w₁, hq, .pass (x := .inLoop c) rfl (fun _ _ => .inl (by simp)) harr⟩
  | panic ch => exact ⟨_, a₁, w₁, hq, .pass (x := .inLoop c) rfl (fun _ _ => .inl (by simp)) harr⟩
  | outgrown => exact ⟨_, a₁, w₁, hq, .pass (x := .inLoop c) rfl (fun _ _ => .inl (by simp)) harr⟩
abbrev WL (P : Program) (w0 : World) (n : Nat) (Q : Post) (D : List PP) (G : List HP) (e : Env) (c : Code) : Prop := WK w0 n (Lw P c Q) D G e
theorem s_loop {c : Code} (h : WL P w0 n Q D G e c) : WS P w0 n Q D G e (.loop c) := fun a w hf hh => (h a w hf hh).wp
theorem l_round {c : Code} (h : WS P w0 n (Exit.then (Lw P c Q) Q) D G e c) : WL P w0 n Q D G e c := fun a w hf hh => Lw.unroll (h a w hf hh)
theorem q_loop {c : Code} (h : WL P w0 n Q D G e c) : WQ w0 n (Exit.then (Lw P c Q) Q) D G e .normal := h

/-! Weakening. -/
theorem Holds.sub {w : World} (h : Holds w0 D G w) (is : List Nat) {A B : List HP} (hp : picks is G = some (A, B)) : Holds w0 D A w := by
  have h1 := h.perm (picks_perm hp)
  obtain ⟨J, k, g, d, s⟩ := h1
  obtain ⟨a, b, _, la, _, s1, _⟩ := Sat.split s
  exact ⟨J, k, g, d, s1.mono (Im.le_refl _) la⟩
theorem Holds.picked {w : World} (h : Holds w0 D G w) (is : List Nat) {A B : List HP} (hp : picks is G = some (A, B)) : Holds w0 D (A ++ B) w := h.perm (picks_perm hp)
/-- All of l at places is of D. -/
def allAt {α : Type} (D : List α) : List Nat → Option (List α)
  | [] => some []
  | i :: is => match nth D i with
    | none => none
    | some x => match allAt D is with
      | none => none
      | some l => some (x :: l)
theorem allAt_mem {α : Type} {D : List α} : ∀ {is : List Nat} {l : List α}, allAt D is = some l → ∀ p ∈ l, p ∈ D := by
  intro is
  induction is with
  | nil => intro l h; cases h; intro p hp; cases hp
  | cons i is ih =>
    intro l h
    simp only [allAt] at h
    split at h
    · cases h
    · rename_i x hx
      split at h
      · cases h
      · rename_i l' hl
        cases h
        intro p hp
        rcases List.mem_cons.1 hp with rfl | hp
        · exact nth_mem hx
        · exact ih hl p hp
end code

section ops
variable {P : Program} {w0 : World} {n : Nat} {Q : Post} {ops : Array Oper} {D : List PP} {G : List HP} {e : Env}
theorem s_reg {id : Nat} (l : List Nat) (hl : List.range ops.size = l) (h : WO P w0 n Q ops D G e l) : WS P w0 n Q D G e (.region id ops false) :=
  fun a w hf hh => wp_region (by rw [hl]; exact h a w hf hh)
theorem o_nil (h : WQ w0 n Q D G e .normal) : WO P w0 n Q ops D G e [] := fun a w hf hh => by simpa [wpOps] using h a w hf hh
theorem opAt {i : Nat} {o : Oper} (h : nth ops.toList i = some o) : ops[i]? = some o := by rw [nth_eq] at h; simpa using h
/-- An operation of a region, and what follows. -/
theorem oc {i : Nat} {l : List Nat} (h : WK w0 n (wpOp P ops Q i (wpOps P ops Q l)) D G e) : WO P w0 n Q ops D G e (i :: l) := fun a w hf hh => by rw [wpOps_cons]; exact h a w hf hh
/-- An operation without a guard that comes to a value, whatever it does to the world. -/
theorem k_val {i : Nat} {o : Oper} {d : Nat} {K : Act → World → Prop} (hi : nth ops.toList i = some o) (hg : o.guard = none) (hd : o.dst = some d) (hn : Nat.blt d n = true)
    (h : ∀ a w, Fits n e a → Holds w0 D G w → ∃ v D' G' w', (execOp a.eval o).run P w = .ok (.value v) w' ∧ Holds w0 D' G' w' ∧ WK w0 n K D' G' ((d, v) :: e)) :
    WK w0 n (wpOp P ops Q i K) D G e := by
  intro a w hf hh
  obtain ⟨v, D', G', w', hr, hh', hk⟩ := h a w hf hh
  simp only [wpOp, opAt hi, Region.wanted, hg, if_true]
  refine .inl ?_
  simp only [Oper.wp, hr, Oper.upon, hd]
  exact hk _ _ (hf.put hn v) hh'
theorem yielded_of {a : Act} {j d : Nat} {oj : Oper} {b : Bool} (hf : Fits n e a) (hj : nth ops.toList j = some oj) (hd : oj.dst = some d) (hb : get e d = some (.bool b)) : yielded ops a.tmps j = some b := by
  simp [yielded, opAt hj, hd, hf.get d _ hb]
/-- When an operation is carried out: it has no guard, or its guard is as wanted. -/
def Goes (e : Env) (ops : Array Oper) (o : Oper) : Prop := o.guard = none ∨ ∃ j b oj dj, o.guard = some (j, b) ∧ nth ops.toList j = some oj ∧ oj.dst = some dj ∧ get e dj = some (.bool b)
theorem Goes.wanted {a : Act} {o : Oper} (h : Goes e ops o) (hf : Fits n e a) : Region.wanted o (yielded ops a.tmps) = true := by
  rcases h with h | ⟨j, b, oj, dj, h1, h2, h3, h4⟩
  · simp [Region.wanted, h]
  · simp [Region.wanted, h1, yielded_of hf h2 h3 h4]
theorem g0 {o : Oper} (h : o.guard = none) : Goes e ops o := .inl h
theorem g1 {o oj : Oper} {j dj : Nat} {b : Bool} (h1 : o.guard = some (j, b)) (h2 : nth ops.toList j = some oj) (h3 : oj.dst = some dj) (h4 : get e dj = some (.bool b)) : Goes e ops o := .inr ⟨j, b, oj, dj, h1, h2, h3, h4⟩
theorem k_gval {i : Nat} {o : Oper} {d : Nat} {K : Act → World → Prop} (hi : nth ops.toList i = some o) (hg : Goes e ops o) (hd : o.dst = some d) (hn : Nat.blt d n = true)
    (h : ∀ a w, Fits n e a → Holds w0 D G w → ∃ v D' G' w', (execOp a.eval o).run P w = .ok (.value v) w' ∧ Holds w0 D' G' w' ∧ WK w0 n K D' G' ((d, v) :: e)) :
    WK w0 n (wpOp P ops Q i K) D G e := by
  intro a w hf hh
  obtain ⟨v, D', G', w', hr, hh', hk⟩ := h a w hf hh
  simp only [wpOp, opAt hi, hg.wanted hf, if_true]
  refine .inl ?_
  simp only [Oper.wp, hr, Oper.upon, hd]
  exact hk _ _ (hf.put hn v) hh'
/-- The same, of one that comes to nothing. -/
theorem k_skip {i : Nat} {o : Oper} {K : Act → World → Prop} (hi : nth ops.toList i = some o) (hg : Goes e ops o) (hd : o.dst = none)
    (h : ∀ a w, Fits n e a → Holds w0 D G w → ∃ D' G' w', (execOp a.eval o).run P w = .ok .skip w' ∧ Holds w0 D' G' w' ∧ WK w0 n K D' G' e) :
    WK w0 n (wpOp P ops Q i K) D G e := by
  intro a w hf hh
  obtain ⟨D', G', w', hr, hh', hk⟩ := h a w hf hh
  simp only [wpOp, opAt hi, hg.wanted hf, if_true]
  refine .inl ?_
  simp only [Oper.wp, hr, Oper.upon, hd]
  exact hk _ _ hf hh'
/-- A guarded operation that is left out. -/
theorem o_gnot {i j : Nat} {o oj : Oper} {d dj : Nat} {b c : Bool} {l : List Nat} (hi : nth ops.toList i = some o) (hg : o.guard = some (j, b)) (hj : nth ops.toList j = some oj) (hdj : oj.dst = some dj) (hb : get e dj = some (.bool c)) (hbc : c = !b) (hd : o.dst = some d) (hn : Nat.blt d n = true)
    (h : WO P w0 n Q ops D G ((d, undef) :: e) l) : WO P w0 n Q ops D G e (i :: l) := by
  intro a w hf hh
  have hne : (some c == some b) = false := by subst hbc; cases b <;> rfl
  simp only [wpOps, opAt hi, Region.wanted, hg, yielded_of hf hj hdj hb, hne, Bool.false_eq_true, if_false]
  rw [hd]
  exact h _ _ (hf.put hn undef) hh

/-- A guarded operation whose guard was left out itself. -/
theorem o_gundef {i j : Nat} {o oj : Oper} {d dj : Nat} {b : Bool} {l : List Nat} (hi : nth ops.toList i = some o) (hg : o.guard = some (j, b)) (hj : nth ops.toList j = some oj) (hdj : oj.dst = some dj) (hb : get e dj = some undef) (hd : o.dst = some d) (hn : Nat.blt d n = true)
    (h : WO P w0 n Q ops D G ((d, undef) :: e) l) : WO P w0 n Q ops D G e (i :: l) := by
  intro a w hf hh
  have hy : yielded ops a.tmps j = none := by simp [yielded, opAt hj, hdj, hf.get dj _ hb, undef]
  have hne : ((none : Option Bool) == some b) = false := rfl
  simp only [wpOps, opAt hi, Region.wanted, hg, hy, hne, Bool.false_eq_true, if_false]
  rw [hd]
  exact h _ _ (hf.put hn undef) hh
theorem sz {P : Program} {t : TypeId} {m k : Nat} (h : m = k) (hs : ∀ w, (sizeOf t).run P w = .ok k w) : ∀ w, (sizeOf t).run P w = .ok m w := by subst h; exact hs
/-- An operation that leaves the world alone. -/
theorem o_pure {i : Nat} {o : Oper} {d : Nat} {v : Value} {l : List Nat} {C : World → Prop} (hi : nth ops.toList i = some o) (hev : Evals P e o v C) (hC : ∀ w, Holds w0 D G w → C w) (hg : Goes e ops o) (hd : o.dst = some d) (hn : Nat.blt d n = true)
    (h : WO P w0 n Q ops D G ((d, v) :: e) l) : WO P w0 n Q ops D G e (i :: l) :=
  oc (k_gval hi hg hd hn fun a w hf hh => ⟨v, D, G, w, hev _ hf.ops w (hC w hh), hh, h⟩)
/-- Forget slots. -/
theorem o_keep (ts : List Nat) {e' : Env} (hk : keepEnv e ts = some e') {l : List Nat} (h : WO P w0 n Q ops D G e' l) : WO P w0 n Q ops D G e l :=
  fun a w hf hh => h a w (hf.sub (keepEnv_sub hk)) hh
theorem q_keep (ts : List Nat) {e' : Env} (hk : keepEnv e ts = some e') {x : Exit} (h : WQ w0 n Q D G e' x) : WQ w0 n Q D G e x :=
  fun a w hf hh => h a w (hf.sub (keepEnv_sub hk)) hh
/-- Forget slots, facts and tokens, in one. -/
theorem Holds.weak {w : World} (h : Holds w0 D G w) (ds gs : List Nat) {D' : List PP} {G' B : List HP} (hd : allAt D ds = some D') (hg : picks gs G = some (G', B)) : Holds w0 D' G' w :=
  (h.sub gs hg).weakD (allAt_mem hd)
end ops

/-! Functions. -/
/-- What a function does when called: from the facts D and tokens G on it comes to a value, facts and tokens of which post tells. -/
def Fn (P : Program) (k : Nat) (args : List Value) (D : List PP) (G : List HP) (post : Value → List PP → List HP → Prop) : Prop :=
  ∀ w0 D0 G0 w, (∀ p ∈ D, p ∈ D0) → Holds w0 D0 (G ++ G0) w →
    Calls P k args.toArray w (fun x w' => ∃ v D' G', post v D' G' ∧ x = .returned v ∧ Holds w0 (D' ++ D0) (G' ++ G0) w')

def Rt (w0 : World) (D0 : List PP) (G0 : List HP) (post : Value → List PP → List HP → Prop) : Ending → World → Prop :=
  fun x w' => ∃ v D' G', post v D' G' ∧ x = .returned v ∧ Holds w0 (D' ++ D0) (G' ++ G0) w'

def initEnv : Nat → List Value → Env
  | _, [] => []
  | i, v :: l => (i, v) :: initEnv (i + 1) l
theorem initEnv_get : ∀ {l : List Value} {i t : Nat} {v : Value}, get (initEnv i l) t = some v → i ≤ t ∧ l[t - i]? = some v := by
  intro l
  induction l with
  | nil => intro i t v h; cases h
  | cons x l ih =>
    intro i t v h
    simp only [initEnv, get] at h
    cases hb : Nat.beq i t with
    | true =>
      rw [hb] at h
      have := Nat.eq_of_beq_eq_true hb
      subst this
      simpa using h
    | false =>
      rw [hb] at h
      obtain ⟨h1, h2⟩ := ih h
      refine ⟨by omega, ?_⟩
      rw [show t - i = (t - (i + 1)) + 1 by omega, List.getElem?_cons_succ]
      exact h2
theorem fn_of {P : Program} {k : Nat} {fn : Func} {c : Code} {n : Nat} {args : List Value} {D : List PP} {G : List HP} {post : Value → List PP → List HP → Prop}
    (hf : P.funcs[k]? = some fn) (hb : fn.body = some c) (hn : fn.ntmps = n) (hle : Nat.ble args.length n = true)
    (h : ∀ w0 D0 G0, WS P w0 n (bodyPost P fn (Rt w0 D0 G0 post)) (app D D0) (app G G0) (initEnv 0 args) c) : Fn P k args D G post := by
  intro w0 D0 G0 w hD hh
  simp only [app_eq] at h
  have hle' : args.length ≤ n := Nat.le_of_ble_eq_true hle
  refine calls_of_wp hf hb (h w0 D0 G0 _ _ ⟨rfl, by simp [hn]; omega, fun t v ht => ?_⟩ (hh.weakD fun p hp => ?_))
  · obtain ⟨_, h2⟩ := initEnv_get ht
    rw [Nat.sub_zero] at h2
    have hlt : t < args.length := (List.getElem?_eq_some_iff.1 h2).1
    show (args.toArray ++ _)[t]? = _
    rw [Array.getElem?_append_left (by simpa using hlt)]
    simpa using h2
  · rcases List.mem_append.1 hp with q | q
    · exact hD p q
    · exact q

section ret
variable {P : Program} {w0 : World} {n : Nat} {fn : Func} {D D0 : List PP} {G G0 : List HP} {e : Env} {post : Value → List PP → List HP → Prop}
/-- The results that lie in slots. -/
theorem q_ret {v : Value} {D' : List PP} {G' B : List HP} (hv : ∀ a w, Fits n e a → Holds w0 D G w → (results fn a.tmps).run P w = .ok v w) (hp : post v D' G')
    (hD : ∀ p ∈ D' ++ D0, p ∈ D) (gs : List Nat) (hG : picks gs G = some (G', B)) (m : Nat) (hB : B.drop m = G0) : WQ w0 n (bodyPost P fn (Rt w0 D0 G0 post)) D G e .ret := by
  intro a w hf hh
  have h1 := (hh.picked gs hG).weakD hD
  obtain ⟨J, k, g, d, s⟩ := h1
  obtain ⟨x, y, dd, lx, ly, s1, s2⟩ := Sat.split s
  have hdrop : ∀ (m : Nat) (B : List HP) (y : Hp), Sat B J y → Sat (B.drop m) J y := by
    intro m
    induction m with
    | zero => intro B y s; exact s
    | succ m ih =>
      intro B y s
      cases B with
      | nil => exact s
      | cons A B =>
        obtain ⟨_, _, _, _, b2, _, s2⟩ := s
        exact ih B y (s2.mono (Im.le_refl _) b2)
  have s2' := hdrop m B y s2
  rw [hB] at s2'
  exact ⟨hf.defers, v, hv a w hf hh, v, D', G', hp, rfl, J, k, g, d, Sat.append dd lx ly s1 s2'⟩
theorem results1 {t : Nat} {a : Act} {w : World} {v : Value} (hr : fn.results = #[.tmp t]) (hf : Fits n e a) (ht : get e t = some v) : (results fn a.tmps).run P w = .ok v w := by
  simp [results, hr, hf.get t v ht]
theorem results0 {a : Act} {w : World} (hr : fn.results = #[]) : (results fn a.tmps).run P w = .ok (.tuple #[]) w := by
  simp [results, hr]
end ret

/-- Calls. -/
theorem k_call {P : Program} {w0 : World} {n : Nat} {Q : Post} {ops : Array Oper} {D : List PP} {G : List HP} {e : Env} {K : Act → World → Prop} {i k d : Nat} {o : Oper} {xs : Array Operand} {ts : Array TypeId} {vs : List Value}
    {D1 : List PP} {G1 B : List HP} {post : Value → List PP → List HP → Prop}
    (hc : Fn P k vs D1 G1 post) (hcall : ∀ (args : Array Value) (w : World), (callFunc k args).run P w = .ok (.enter k args) w)
    (hi : nth ops.toList i = some o) (ho : o.op = .call ⟨.value (.func k), xs, ts⟩) (hx : opvs e xs.toList = some vs) (ds gs : List Nat) (hD : allAt D ds = some D1) (hG : picks gs G = some (G1, B)) (hg : Goes e ops o) (hd : o.dst = some d) (hn : Nat.blt d n = true)
    (h : ∀ v D' G', post v D' G' → WK w0 n K (app D' D) (app G' B) ((d, v) :: e)) : WK w0 n (wpOp P ops Q i K) D G e := by
  simp only [app_eq] at h
  intro a w hf hh
  have hargs : xs.map a.eval = vs.toArray := by
    rw [← hf.ops.list hx]
    apply Array.ext'
    rw [Array.toList_map]
  have hr : (execOp a.eval o).run P w = .ok (.enter k vs.toArray) w := by
    have hcall' := hcall vs.toArray w
    simp [execOp, ho, resolve, hargs, Deferred.ofValue, invoke, Act.eval, hcall']
  simp only [wpOp, opAt hi, hg.wanted hf, if_true]
  refine .inl ?_
  simp only [Oper.wp, hr, Oper.upon, hd]
  refine (hc w0 D B w (allAt_mem hD) (hh.picked gs hG)).mono ?_
  rintro x w' ⟨v, D', G', hp, rfl, hh'⟩
  exact h v D' G' hp _ _ (hf.put hn v) hh'
end Go.Proofs.YtpdoioeckiiegaaGreatDoor.Wl
