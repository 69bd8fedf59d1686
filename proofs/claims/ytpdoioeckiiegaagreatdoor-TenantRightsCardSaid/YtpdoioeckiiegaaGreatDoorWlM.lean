/- What the pure models are made of. -/
namespace Go.Proofs.YtpdoioeckiiegaaGreatDoor.Wl
def bnd {α β : Type} (x : α) (f : α → Option β) : Option β := f x
def jn {α β : Type} (R : α → Option β) (F : (α → Option β) → Option β) : Option β := F R
def chk {β : Type} (c : Prop) [Decidable c] (x : Option β) : Option β := if c then x else none
/-- More rounds than any loop goes. -/
def Fuel : Nat := 18446744073709551616
/-- Lists, one behind the other. -/
def app {α : Type} : List α → List α → List α
  | [], l => l
  | x :: r, l => x :: app r l
theorem app_eq {α : Type} (a b : List α) : app a b = a ++ b := by
  induction a with
  | nil => rfl
  | cons x a ih => exact congrArg (x :: ·) ih
theorem chk_some {β : Type} {c : Prop} [Decidable c] {x : Option β} {r : β} (h : chk c x = some r) : c ∧ x = some r := by
  unfold chk at h
  split at h
  · exact ⟨by assumption, h⟩
  · cases h
theorem bind_some' {α β : Type} {x : Option α} {f : α → Option β} {r : β} (h : x.bind f = some r) : ∃ y, x = some y ∧ f y = some r := by
  cases x with
  | none => cases h
  | some y => exact ⟨y, rfl, h⟩
theorem bnd_eq {α β : Type} {x : α} {f : α → Option β} {r : β} (h : bnd x f = some r) {y : α} (hy : y = x) : f y = some r := by subst hy; exact h
theorem cnd_t {α : Type} {c : Bool} {x y : Option α} {r : α} (h : (bif c then x else y) = some r) (hc : c = true) : x = some r := by subst hc; exact h
theorem cnd_f {α : Type} {c : Bool} {x y : Option α} {r : α} (h : (bif c then x else y) = some r) (hc : c = false) : y = some r := by subst hc; exact h
/-- An array of n elements. -/
structure Arr (α : Type) (n : Nat) where
  l : List α
  len : l.length = n
theorem Arr.ext {α : Type} {n : Nat} {a b : Arr α n} (h : a.l = b.l) : a = b := by cases a; cases b; cases h; rfl
instance {α : Type} [DecidableEq α] {n : Nat} : DecidableEq (Arr α n) := fun a b =>
  if h : a.l = b.l then isTrue (Arr.ext h) else isFalse fun e => h (by rw [e])
def Arr.zero {α : Type} (d : α) (n : Nat) : Arr α n := ⟨List.replicate n d, List.length_replicate⟩
def Arr.set {α : Type} {n : Nat} (a : Arr α n) (k : Int) (x : α) : Arr α n := ⟨a.l.set k.toNat x, by rw [List.length_set]; exact a.len⟩
/-- The first n of l (filled up, if there are too few). -/
def Arr.of {α : Type} (d : α) (n : Nat) (l : List α) : Arr α n := ⟨(l ++ List.replicate n d).take n, by simp⟩
end Go.Proofs.YtpdoioeckiiegaaGreatDoor.Wl
