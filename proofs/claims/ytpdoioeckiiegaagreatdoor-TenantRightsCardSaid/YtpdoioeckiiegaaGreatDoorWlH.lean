/- Cells of structs: parts that are read, parts that are written. -/
import Derived.Test.YtpdoioeckiiegaaGreatDoorWlG
set_option linter.unusedSimpArgs false
set_option linter.unusedVariables false
namespace Go.Proofs.YtpdoioeckiiegaaGreatDoor.Wl
open Go.RowKit

/-- Written at place j, cs is cs'. -/
structure Spl (cs : List Value) (j : Nat) (s cs' : List Value) : Prop where
  eq : splice cs j s = cs'
  fit : j + s.length ≤ cs.length
theorem Spl.len {cs s cs' : List Value} {j : Nat} (h : Spl cs j s cs') : cs'.length = cs.length := by rw [← h.eq]; exact splice_length _ _ _ h.fit
theorem spl_all {cs s : List Value} (h : s.length = cs.length) : Spl cs 0 s s := ⟨by simp [splice, h], by omega⟩
theorem spl_skip {a b s b' : List Value} {n j q : Nat} (h : Spl b j s b') (hl : a.length = n) (hq : n + j = q) : Spl (a ++ b) q s (a ++ b') := by
  subst hq hl
  refine ⟨?_, by have := h.fit; simp; omega⟩
  apply List.ext_getElem?
  intro m
  have hf := h.fit
  rw [splice_get _ _ _ (by simp; omega)]
  by_cases h1 : m < a.length
  · rw [if_pos (by omega), List.getElem?_append_left h1, List.getElem?_append_left h1]
  · rw [List.getElem?_append_right (by omega), List.getElem?_append_right (by omega), ← h.eq, splice_get _ _ _ hf]
    by_cases h2 : m < a.length + j
    · rw [if_pos h2, if_pos (show m - a.length < j by omega)]
    · rw [if_neg h2, if_neg (show ¬ m - a.length < j by omega)]
      by_cases h3 : m < a.length + j + s.length
      · rw [if_pos h3, if_pos (show m - a.length < j + s.length by omega)]; congr 1; omega
      · rw [if_neg h3, if_neg (show ¬ m - a.length < j + s.length by omega)]
theorem spl_head {a b s a' : List Value} {j : Nat} (h : Spl a j s a') : Spl (a ++ b) j s (a' ++ b) := by
  have hf := h.fit
  have hl := h.len
  refine ⟨?_, by simp; omega⟩
  apply List.ext_getElem?
  intro m
  rw [splice_get _ _ _ (by simp; omega)]
  by_cases h1 : m < a.length
  · rw [List.getElem?_append_left h1, List.getElem?_append_left (by omega), ← h.eq, splice_get _ _ _ hf]
  · rw [if_neg (by omega), if_neg (by omega), List.getElem?_append_right (by omega), List.getElem?_append_right (by omega), hl]
theorem spl_in {cs mid s mid' cs' : List Value} {i j q : Nat} (h : SubAt cs i mid) (h1 : Spl mid j s mid') (h2 : Spl cs i mid' cs') (hq : i + j = q) : Spl cs q s cs' := by
  subst hq
  have f1 := h1.fit
  have f2 := h2.fit
  have l1 := h1.len
  refine ⟨?_, by omega⟩
  rw [← h2.eq]
  apply List.ext_getElem?
  intro m
  rw [splice_get _ _ _ (by omega), splice_get _ _ _ f2]
  by_cases c1 : m < i
  · rw [if_pos (show m < i + j by omega), if_pos c1]
  · rw [if_neg c1]
    by_cases c2 : m < i + mid'.length
    · rw [if_pos c2, ← h1.eq, splice_get _ _ _ f1]
      have hmid : cs[m]? = mid[m - i]? := by
        have hlt : m - i < mid.length := by omega
        have := h (m - i) _ (List.getElem?_eq_getElem hlt)
        rw [show i + (m - i) = m by omega] at this
        rw [this, List.getElem?_eq_getElem hlt]
      by_cases c3 : m < i + j
      · rw [if_pos c3, if_pos (show m - i < j by omega), hmid]
      · rw [if_neg c3, if_neg (show ¬ m - i < j by omega)]
        by_cases c4 : m < i + j + s.length
        · rw [if_pos c4, if_pos (show m - i < j + s.length by omega)]; congr 1; omega
        · rw [if_neg c4, if_neg (show ¬ m - i < j + s.length by omega), hmid]
    · rw [if_neg (show ¬ m < i + j by omega), if_neg c2, if_neg (show ¬ m < i + j + s.length by omega)]
/-- A cell of a list that is written out. -/
theorem spl_lit {cs s cs' : List Value} {j : Nat} (h : splice cs j s = cs') (hf : Nat.ble (j + s.length) cs.length = true) : Spl cs j s cs' := ⟨h, Nat.le_of_ble_eq_true hf⟩
theorem E8_len : ∀ x, (E8 x).length = 1 := fun _ => rfl
theorem Ei_len : ∀ x, (Ei x).length = 1 := fun _ => rfl
def E32 (x : UInt32) : List Value := [v32 x]
theorem E32_len : ∀ x, (E32 x).length = 1 := fun _ => rfl
theorem E8_one : ∀ x, ∀ u ∈ E8 x, u.oneCell' = true := by intro x u hu; simp [E8] at hu; subst hu; rfl
theorem E32_one : ∀ x, ∀ u ∈ E32 x, u.oneCell' = true := by intro x u hu; simp [E32] at hu; subst hu; rfl
theorem Ei_one : ∀ x, ∀ u ∈ Ei x, u.oneCell' = true := by intro x u hu; simp [Ei] at hu; subst hu; rfl
theorem sc_one (v : Value) : sc v = v.oneCell' := by cases v <;> rfl
theorem arr_len {α : Type} {f : α → List Value} {s n m : Nat} (hf : ∀ x, (f x).length = s) (a : Arr α n) (hm : n * s = m) : (a.l.flatMap f).length = m := by rw [flatMap_length hf, a.len, hm]
theorem arr_sc {α : Type} {f : α → List Value} (h1 : ∀ x, ∀ u ∈ f x, u.oneCell' = true) (l : List α) : (l.flatMap f).all sc = true := by
  rw [List.all_eq_true]
  intro u hu
  obtain ⟨x, _, hx⟩ := List.mem_flatMap.1 hu
  rw [sc_one]; exact h1 x u hx
theorem all_app {p : Value → Bool} {a b : List Value} (h : a.all p = true) (k : b.all p = true) : (a ++ b).all p = true := by rw [List.all_append, h, k]; rfl
/-- An element of an array. -/
theorem sub_arr {α : Type} {f : α → List Value} {s n : Nat} (hf : ∀ x, (f x).length = s) (df : α) (a : Arr α n) {k : Int} (hk : 0 ≤ k ∧ k < n) {q : Nat} (hq : k.toNat * s = q) : SubAt (a.l.flatMap f) q (f (at' df a.l k)) :=
  sub_map hf df (by rw [a.len]; exact hk) hq
theorem flatMap_set {α : Type} {f : α → List Value} {s : Nat} (hf : ∀ x, (f x).length = s) : ∀ (xs : List α) (k : Nat) (v : α), k < xs.length → Spl (xs.flatMap f) (k * s) (f v) ((xs.set k v).flatMap f) := by
  intro xs
  induction xs with
  | nil => intro k v h; simp at h
  | cons x xs ih =>
    intro k v h
    cases k with
    | zero =>
      simp only [List.set_cons_zero, List.flatMap_cons, Nat.zero_mul]
      exact spl_head (spl_all (by rw [hf, hf]))
    | succ k =>
      simp only [List.set_cons_succ, List.flatMap_cons]
      exact spl_skip (ih k v (by simpa using h)) (hf x) (by rw [Nat.add_mul]; omega)
theorem spl_arr {α : Type} {f : α → List Value} {s n : Nat} (hf : ∀ x, (f x).length = s) (a : Arr α n) {k : Int} (v : α) (hk : 0 ≤ k ∧ k < n) {q : Nat} (hq : k.toNat * s = q) : Spl (a.l.flatMap f) q (f v) ((a.set k v).l.flatMap f) := by
  subst hq
  exact flatMap_set hf a.l k.toNat v (by rw [a.len]; omega)
end Go.Proofs.YtpdoioeckiiegaaGreatDoor.Wl
