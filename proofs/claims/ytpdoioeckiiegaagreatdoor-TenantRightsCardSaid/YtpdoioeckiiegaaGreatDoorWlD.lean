/- Operations that make blocks or write cells. -/
import Derived.Test.YtpdoioeckiiegaaGreatDoorWlC
import Derived.Test.YtpdoioeckiiegaaGreatDoorWlO
set_option linter.unusedSimpArgs false
set_option linter.unusedVariables false
namespace Go.Proofs.YtpdoioeckiiegaaGreatDoor.Wl
open Go.RowKit

/-- The cells from place j on, replaced. -/
def splice (cs : List Value) (j : Nat) (vs : List Value) : List Value := cs.take j ++ (vs ++ cs.drop (j + vs.length))
def sc : Value → Bool
  | .agg _ | .tuple _ => false
  | _ => true
theorem splice_nil (cs : List Value) (j : Nat) : splice cs j [] = cs := by simp [splice]
theorem splice_length (cs : List Value) (j : Nat) (vs : List Value) (h : j + vs.length ≤ cs.length) : (splice cs j vs).length = cs.length := by
  simp [splice]; omega
theorem splice_get (cs : List Value) (j : Nat) (vs : List Value) (h : j + vs.length ≤ cs.length) (m : Nat) : (splice cs j vs)[m]? = if m < j then cs[m]? else if m < j + vs.length then vs[m - j]? else cs[m]? := by
  simp only [splice]
  have hl : (cs.take j).length = j := by simp; omega
  by_cases h1 : m < j
  · rw [if_pos h1, List.getElem?_append_left (by omega), List.getElem?_take_of_lt h1]
  · rw [if_neg h1, List.getElem?_append_right (by omega), hl]
    by_cases h2 : m < j + vs.length
    · rw [if_pos h2, List.getElem?_append_left (by omega)]
    · rw [if_neg h2, List.getElem?_append_right (by omega), List.getElem?_drop]
      congr 1; omega
theorem splice_cons (cs : List Value) (j : Nat) (v : Value) (vs : List Value) (h : j + (v :: vs).length ≤ cs.length) : splice (cs.set j v) (j + 1) vs = splice cs j (v :: vs) := by
  simp only [List.length_cons] at h
  apply List.ext_getElem?
  intro m
  rw [splice_get _ _ _ (by simp; omega), splice_get _ _ _ (by simp; omega)]
  simp only [List.length_cons]
  by_cases h1 : m < j
  · rw [if_pos (by omega), if_pos h1, List.getElem?_set_ne (by omega)]
  · rw [if_neg h1]
    by_cases h2 : m = j
    · subst h2
      rw [if_pos (by omega), if_pos (by omega), List.getElem?_set_self (by omega)]
      simp
    · rw [if_neg (by omega)]
      by_cases h3 : m < j + 1 + vs.length
      · rw [if_pos h3, if_pos (by omega), show m - j = (m - (j + 1)) + 1 by omega, List.getElem?_cons_succ]
      · rw [if_neg h3, if_neg (by omega), List.getElem?_set_ne (by omega)]

theorem nth_put {α : Type} {l : List α} : ∀ {i : Nat} {x : α} (y : α), nth l i = some x → nth (put l i y) i = some y := by
  induction l with
  | nil => intro i x y h; cases h
  | cons z l ih =>
    intro i x y h
    cases i with
    | zero => rfl
    | succ i => exact ih y h
theorem put_put {α : Type} {l : List α} : ∀ {i : Nat} (x y : α), put (put l i x) i y = put l i y := by
  induction l with
  | nil => intro i x y; rfl
  | cons z l ih =>
    intro i x y
    cases i with
    | zero => rfl
    | succ i => exact congrArg (z :: ·) (ih x y)
theorem put_same {α : Type} {l : List α} : ∀ {i : Nat} {x : α}, nth l i = some x → put l i x = l := by
  induction l with
  | nil => intro i x h; cases h
  | cons z l ih =>
    intro i x h
    cases i with
    | zero => cases h; rfl
    | succ i => exact congrArg (z :: ·) (ih h)

section
variable {P : Program} {w0 : World} {D : List PP} {G : List HP}
theorem run_store1 {w : World} {a : Addr} {v u : Value} (hc : w.cell? a = some u) (hf : w.frozen? a = false) (hv : sc v = true) : (store a v).run P w = .ok () (w.setCell a v) := by
  cases v <;> simp [sc] at hv <;> simp [store, Sem.run, hc, hf]
theorem run_storeCells {i b o : Nat} : ∀ (vs : List Value) (k : Nat) (cs : List Value) (G : List HP) (w : World), nth G i = some (At b o cs) → k + vs.length ≤ cs.length → vs.all sc = true → Holds w0 D G w →
    ∃ w', (storeCells ⟨b, o, none⟩ vs k).run P w = .ok () w' ∧ Holds w0 D (put G i (At b o (splice cs k vs))) w' := by
  intro vs
  induction vs with
  | nil =>
    intro k cs G w hi _ _ h
    exact ⟨w, rfl, by rw [splice_nil, put_same hi]; exact h⟩
  | cons v vs ih =>
    intro k cs G w hi hk hs h
    simp only [List.length_cons] at hk
    simp only [List.all_cons, Bool.and_eq_true] at hs
    have ha : (⟨b, o, none⟩ : Addr).add k = ⟨b, o + k, none⟩ := by unfold Addr.add; split <;> simp_all
    obtain ⟨hc, hf, _⟩ := h.at_ hi
    have hlt : k < cs.length := by omega
    have h1 := hc k _ (List.getElem?_eq_getElem hlt)
    have h2 := h.set1 hi hlt v
    obtain ⟨w', hr, hh⟩ := ih (k + 1) (cs.set k v) _ _ (nth_put _ hi) (by simp; omega) hs.2 h2
    refine ⟨w', ?_, ?_⟩
    · simp [storeCells, ha, run_store1 (P := P) h1 (hf k hlt) hs.1, hr]
    · rw [put_put, splice_cons _ _ _ _ (by simp; omega)] at hh
      exact hh
end

section
variable {P : Program} {w0 : World} {n : Nat} {Q : Post} {ops : Array Oper} {D : List PP} {G : List HP} {e : Env} {K : Act → World → Prop} {i d : Nat} {o : Oper} {l : List Nat}
/-- A variable of its own, all zero. -/
theorem k_alloc {t : TypeId} {z : Value} (hi : nth ops.toList i = some o) (ho : o.op = .alloc t) (hz : ∀ w, (zeroValue t).run P w = .ok z w) {cs : List Value} (hcs : z.cells.toList = cs) (hg : Goes e ops o) (hd : o.dst = some d) (hn : Nat.blt d n = true)
    (h : ∀ b, WK w0 n K D (At b 0 cs :: G) ((d, .pointer (some ⟨b, 0, none⟩)) :: e)) : WK w0 n (wpOp P ops Q i K) D G e :=
  k_gval hi hg hd hn fun a w hf hh => ⟨_, D, _, _, by simp [execOp, ho, Instr.alloc, hz, newVar, newRow, newObj, Sem.run]; exact ⟨rfl, rfl⟩, by subst hcs; exact hh.alloc z.cells.toList t, h _⟩
theorem k_box {t : TypeId} {x : Operand} {v : Value} (hi : nth ops.toList i = some o) (ho : o.op = .box t x) (hx : opv e x = some v) {cs : List Value} (hcs : v.cells.toList = cs) (hg : Goes e ops o) (hd : o.dst = some d) (hn : Nat.blt d n = true)
    (h : ∀ b, WK w0 n K D (At b 0 cs :: G) ((d, .pointer (some ⟨b, 0, none⟩)) :: e)) : WK w0 n (wpOp P ops Q i K) D G e :=
  k_gval hi hg hd hn fun a w hf hh => ⟨_, D, _, _, by simp [execOp, ho, Instr.box, hf.ops _ _ hx, newVar, newRow, newObj, Sem.run]; exact ⟨rfl, rfl⟩, by subst hcs; exact hh.alloc v.cells.toList t, h _⟩
/-- A store into a variable of one's own, or into a part of it. -/
theorem k_store {t : TypeId} {x y : Operand} {b p q : Nat} {v : Value} {cs cs' vs : List Value} (hi : nth ops.toList i = some o) (ho : o.op = .store t x y) (hx : opv e x = some (.pointer (some ⟨b, q, none⟩))) (hy : opv e y = some v)
    (hv : v.cells.toList = vs) (hsz : ∀ w, (sizeOf t).run P w = .ok vs.length w) (hsc : vs.all sc = true)
    (g : Nat) (hG : nth G g = some (At b p cs)) (j : Nat) (hq : q = p + j) (hj : Nat.ble (j + vs.length) cs.length = true) (hcs : splice cs j vs = cs') (hg : Goes e ops o) (hd : o.dst = none)
    (h : WK w0 n K D (put G g (At b p cs')) e) : WK w0 n (wpOp P ops Q i K) D G e := by
  refine k_skip hi hg hd fun a w hf hh => ?_
  subst hv hcs hq
  have hj' : j + v.cells.toList.length ≤ cs.length := Nat.le_of_ble_eq_true hj
  -- the same cells, counted from the place itself
  have hmain : ∀ (vs : List Value) (k : Nat) (cs : List Value) (G : List HP) (w : World), nth G g = some (At b p cs) → j + k + vs.length ≤ cs.length → vs.all sc = true → Holds w0 D G w →
      ∃ w', (storeCells ⟨b, p + j, none⟩ vs k).run P w = .ok () w' ∧ Holds w0 D (put G g (At b p (splice cs (j + k) vs))) w' := by
    intro vs
    induction vs with
    | nil => intro k cs G w hi _ _ h; exact ⟨w, rfl, by rw [splice_nil, put_same hi]; exact h⟩
    | cons v vs ih =>
      intro k cs G w hi hk hs h
      simp only [List.length_cons] at hk
      simp only [List.all_cons, Bool.and_eq_true] at hs
      have ha : (⟨b, p + j, none⟩ : Addr).add k = ⟨b, p + (j + k), none⟩ := by
        unfold Addr.add
        split
        · rename_i h0; simp [h0]
        · simp [Nat.add_assoc]
      obtain ⟨hc, hf, _⟩ := h.at_ hi
      have hlt : j + k < cs.length := by omega
      have h1 := hc _ _ (List.getElem?_eq_getElem hlt)
      have h2 := h.set1 hi hlt v
      obtain ⟨w', hr, hh⟩ := ih (k + 1) (cs.set (j + k) v) _ _ (nth_put _ hi) (by simp; omega) hs.2 h2
      refine ⟨w', ?_, ?_⟩
      · simp [storeCells, ha, run_store1 (P := P) h1 (hf _ hlt) hs.1, hr]
      · rw [put_put, show j + (k + 1) = (j + k) + 1 by omega, splice_cons _ _ _ _ (by simp; omega)] at hh
        exact hh
  obtain ⟨w', hr, hh'⟩ := hmain v.cells.toList 0 cs G w hG (by omega) hsc hh
  refine ⟨D, _, w', ?_, hh', h⟩
  have hsz' := hsz w
  simp only [Array.length_toList] at hsz'
  simp [execOp, ho, hf.ops _ _ hx, hf.ops _ _ hy, Instr.storeAt, Instr.sureAddr, storeVar, hsz', hr]
end
end Go.Proofs.YtpdoioeckiiegaaGreatDoor.Wl
