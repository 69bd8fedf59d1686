/- Where a call begins: what the arguments hold, and what is left of the world behind it. -/
import Derived.Test.YtpdoioeckiiegaaGreatDoorWlY
import Derived.ProofKit
import Derived.OpenShut
import Derived.ShutString
import Derived.ChangeOld
import Derived.Below
import Derived.Carry
set_option linter.unusedSimpArgs false
set_option linter.unusedVariables false
namespace Go.Proofs.YtpdoioeckiiegaaGreatDoor.Wl
open Go.RowKit Go.ChangeShapes Go.WideShapes Go.ChangeAt
/-- All that lies in the world when the call begins. -/
def J0 (W : World) : Im := fun b o => W.cell? ⟨b, o, none⟩
theorem holds_start {W : World} {D : List PP} (h : ∀ p ∈ D, p.p (J0 W)) : Holds W D [] W :=
  ⟨J0 W, fun _ _ => none, ⟨Below.refl _ _, fun _ _ _ e => e, (by intro b o v e; simp at e), (by intro b o v e; simp at e), (by intro b o v e; simp at e), fun _ _ => .inr rfl⟩, h, trivial⟩
theorem law_of_fn {P : Program} {k : Nat} {args : List Value} {D : List PP} {W : World} (hf : Fn P k args D [] (fun v D' G' => v = vb true ∧ D' = [] ∧ G' = [])) (hD : ∀ p ∈ D, p.p (J0 W)) :
    Calls P k args.toArray W fun e w' => e = .returned (.bool true) ∧ Below W.heap.size W w' := by
  refine (hf W D [] W (fun _ h => h) (holds_start hD)).mono fun e w' he => ?_
  obtain ⟨v, D', G', ⟨rfl, _, _⟩, rfl, J, h, g, _, _⟩ := he
  exact ⟨rfl, g.below⟩
/-- Bytes that come in. -/
theorem start_bytes {H : Type} {enc : TypeId × Value → H} {P : Program} {W : World} {t e : TypeId} {held : Bool} {fuel : Nat} {A : Option Addr} {len cap : Nat} {x : DataW H × List MemPlace} (ht : P.underlying t = some (.slice e)) (he : P.underlying e = some (.int .u8)) (hc : P.cellsOf e = 1)
    (h : DataW.trod enc P W 0 (fun _ => true) held fuel t (Value.slice A len cap).cells.toList = some x) : ∃ xs : List UInt8, xs.length = len ∧ (Sl E8 A cap xs).p (J0 W) := by
  rcases open_ints ht he hc h with ⟨hcs, _⟩ | ⟨a, l, c, zs, hcs, _, hl, hm, hz, _, hcell, hwz⟩
  · simp [Value.cells] at hcs
    obtain ⟨rfl, rfl, rfl⟩ := hcs
    exact ⟨[], rfl, Nat.le_refl _, by omega, .inl rfl⟩
  · simp [Value.cells] at hcs
    obtain ⟨rfl, rfl, rfl⟩ := hcs
    simp at hz
    have hu : ∀ z ∈ zs, 0 ≤ z ∧ z ≤ 255 := fun z hzm => by
      have := hwz z hzm
      simpa [Lit.wf, IntKind.min, IntKind.max, IntKind.signed, IntKind.bits] using this
    refine ⟨(zs.take len).map fun z => UInt8.ofNat z.toNat, by rw [List.length_map, List.length_take]; omega, by rw [List.length_map, List.length_take]; omega, by unfold maxLen at hm; omega, ?_⟩
    rcases Nat.eq_zero_or_pos len with h0 | h0
    · left; subst h0; simp
    · right
      obtain ⟨b, off, spot⟩ := a
      have hc0 := hcell 0 (by omega)
      have hspot : spot = none := by simpa [Addr.add] using World.cell?_spot hc0
      subst hspot
      refine ⟨b, off, rfl, fun j v hv => ?_⟩
      have hflat : ∀ l : List Int, (l.map fun z => UInt8.ofNat z.toNat).flatMap E8 = l.map fun z => v8 (UInt8.ofNat z.toNat) := by
        intro l
        induction l with
        | nil => rfl
        | cons z l ih => rw [List.map_cons, List.flatMap_cons, ih]; rfl
      rw [hflat, List.getElem?_map] at hv
      have hj : j < len := by
        rcases Nat.lt_or_ge j len with h' | h'
        · exact h'
        · rw [List.getElem?_eq_none (by rw [List.length_take]; omega)] at hv; cases hv
      have hjz : j < zs.length := by omega
      rw [List.getElem?_take_of_lt hj, List.getElem?_eq_getElem hjz] at hv
      simp at hv
      have := hcell j hjz
      have ha : (⟨b, off, none⟩ : Addr).add j = ⟨b, off + j, none⟩ := by unfold Addr.add; split <;> simp_all
      rw [ha] at this
      show W.cell? ⟨b, off + j, none⟩ = some v
      rw [this, ← hv]
      have hr := hu zs[j] (List.getElem_mem hjz)
      have hg : zs.getD j 0 = zs[j] := by simp [List.getD, hjz]
      rw [hg]
      simp only [v8]
      congr 2
      rw [UInt8.toNat_ofNat']
      omega
/-! What a value of a type looks like, by the types of its cells. -/
def All2 (ok : TypeId → Value → Prop) : List TypeId → List Value → Prop
  | [], [] => True
  | t :: ts, v :: vs => ok t v ∧ All2 ok ts vs
  | _, _ => False
theorem All2.of {ok : TypeId → Value → Prop} : ∀ {ts : List TypeId} {vs : List Value}, vs.length = ts.length → (∀ (i : Nat) (v : Value), vs[i]? = some v → ∃ u, ts[i]? = some u ∧ ok u v) → All2 ok ts vs
  | [], [], _, _ => trivial
  | t :: ts, v :: vs, hl, h => ⟨by obtain ⟨u, hu, ho⟩ := h 0 v rfl; simp at hu; subst hu; exact ho, All2.of (by simpa using hl) fun i x hx => by simpa using h (i + 1) x (by simpa using hx)⟩
  | [], _ :: _, hl, _ => by simp at hl
  | _ :: _, [], hl, _ => by simp at hl
theorem All2.app {ok : TypeId → Value → Prop} : ∀ {a b : List TypeId} {vs : List Value}, All2 ok (a ++ b) vs → ∃ x y, vs = x ++ y ∧ All2 ok a x ∧ All2 ok b y
  | [], _, vs, h => ⟨[], vs, rfl, trivial, h⟩
  | t :: a, b, [], h => h.elim
  | t :: a, b, v :: vs, h => by
    obtain ⟨x, y, rfl, h1, h2⟩ := All2.app (a := a) h.2
    exact ⟨v :: x, y, rfl, ⟨h.1, h1⟩, h2⟩
def Dec (ok : TypeId → Value → Prop) {α : Type} (ts : List TypeId) (f : α → List Value) : Prop := ∀ vs, All2 ok ts vs → ∃ x, f x = vs
theorem dec_app {ok : TypeId → Value → Prop} {α β : Type} {a b : List TypeId} {f : α → List Value} {g : β → List Value} (hf : Dec ok a f) (hg : Dec ok b g) {vs : List Value} (h : All2 ok (a ++ b) vs) : ∃ x y, vs = f x ++ g y := by
  obtain ⟨u, v, rfl, h1, h2⟩ := h.app
  obtain ⟨x, rfl⟩ := hf _ h1
  obtain ⟨y, rfl⟩ := hg _ h2
  exact ⟨x, y, rfl⟩
section
variable {P : Program} {W : World} {r : Reach} {base : Nat} {t : TypeId}
theorem all2_one {ok : TypeId → Value → Prop} {vs : List Value} (h : All2 ok [t] vs) : ∃ v, vs = [v] ∧ ok t v := by
  match vs, h with
  | [v], h => exact ⟨v, rfl, h.1⟩
theorem dec_i (ht : P.underlying t = some (.int .i64)) : Dec (Cell.okWide P W r base) [t] Ei := fun vs h => by
  obtain ⟨v, rfl, hv⟩ := all2_one h
  simp only [Cell.okWide, Cell.ok, ht] at hv
  cases v <;> simp at hv
  obtain ⟨rfl, _⟩ := hv
  exact ⟨_, rfl⟩
theorem dec_8 (ht : P.underlying t = some (.int .u8)) : Dec (Cell.okWide P W r base) [t] E8 := fun vs h => by
  obtain ⟨v, rfl, hv⟩ := all2_one h
  simp only [Cell.okWide, Cell.ok, ht] at hv
  cases v <;> simp at hv
  rename_i k n
  obtain ⟨rfl, hn⟩ := hv
  have hn' : 0 ≤ n ∧ n ≤ 255 := by simpa [IntKind.has, IntKind.min, IntKind.max, IntKind.signed, IntKind.bits] using hn
  refine ⟨UInt8.ofNat n.toNat, ?_⟩
  simp only [E8, v8]
  congr 2
  rw [UInt8.toNat_ofNat']
  omega
theorem dec_s (ht : P.underlying t = some .string) : Dec (Cell.okWide P W r base) [t] Es := fun vs h => by
  obtain ⟨v, rfl, hv⟩ := all2_one h
  simp only [Cell.okWide, Cell.ok, ht] at hv
  cases v <;> simp at hv
  rename_i s
  exact ⟨s.data.toList, by simp [Es, vs]⟩
theorem dec_b (ht : P.underlying t = some .bool) : Dec (Cell.okWide P W r base) [t] Eb := fun vs h => by
  obtain ⟨v, rfl, hv⟩ := all2_one h
  simp only [Cell.okWide, Cell.ok, ht] at hv
  cases v <;> simp at hv
  exact ⟨_, rfl⟩
end
theorem dec_arr {ok : TypeId → Value → Prop} {α : Type} {ts : List TypeId} {f : α → List Value} (hf : Dec ok ts f) : ∀ n, Dec ok (List.replicate n ts).flatten (fun a : Arr α n => a.l.flatMap f)
  | 0, vs, h => by
    cases vs with
    | nil => exact ⟨⟨[], rfl⟩, rfl⟩
    | cons v vs => exact h.elim
  | n + 1, vs, h => by
    rw [List.replicate_succ, List.flatten_cons] at h
    obtain ⟨x, y, rfl⟩ := dec_app hf (dec_arr hf n) h
    exact ⟨⟨x :: y.l, by simp [y.len]⟩, rfl⟩
theorem dec_val {P : Program} {W : World} {r : Reach} {base : Nat} {t : TypeId} {α : Type} {f : α → List Value} {v : Value} {ts : List TypeId} {m : Nat} (hu : (∃ fs, P.underlying t = some (.struct fs)) ∨ ∃ n e, P.underlying t = some (.array n e)) (hc : P.cellTypes P.depth t = some ts) (hm : P.cellsOf t = m) (hl : ts.length = m)
    (hf : Dec (Cell.okWide P W r base) ts f) (h : Value.okWide P W r base t v) : ∃ x, v = .agg (f x).toArray := by
  have h' : ∃ cs, v = .agg cs ∧ cs.size = P.cellsOf t ∧ Row.okWide P W r base t cs := by
    rcases hu with ⟨fs, hu⟩ | ⟨n, e, hu⟩ <;> simpa only [Value.okWide, hu] using h
  obtain ⟨cs, rfl, hsz, ts', hts, _, hcell⟩ := h'
  rw [hc] at hts
  cases hts
  obtain ⟨x, hx⟩ := hf cs.toList (All2.of (by rw [Array.length_toList, hsz, hm, hl]) fun i u hi => by
    have hi' : cs[i]? = some u := by simpa using hi
    obtain ⟨w, hw, ho⟩ := hcell i u hi'
    have hlt : i < cs.size := (Array.getElem?_eq_some_iff.1 hi').1
    rw [Nat.mod_eq_of_lt (by omega)] at hw
    exact ⟨w, hw, ho⟩)
  exact ⟨x, by rw [hx]⟩
theorem val_s {P : Program} {W : World} {r : Reach} {base : Nat} {t : TypeId} {v : Value} (ht : P.underlying t = some .string) (h : Value.okWide P W r base t v) : ∃ x : List UInt8, v = vs x ∧ x.length ≤ maxLen := by
  simp only [Value.okWide, ht, Cell.okWide, Cell.ok] at h
  cases v with
  | string s =>
    refine ⟨s.data.toList, by simp [vs], ?_⟩
    have h1 : s.size = s.data.toList.length := by show s.data.size = _; rw [Array.length_toList]
    have h2 : (s.size : Int) ≤ 9223372036854775807 := h
    rw [← h1]
    unfold maxLen
    omega
  | _ => exact h.elim
theorem val_i {P : Program} {W : World} {r : Reach} {base : Nat} {t : TypeId} {v : Value} (ht : P.underlying t = some (.int .i64)) (h : Value.okWide P W r base t v) : ∃ x : Int, v = vi x ∧ -9223372036854775808 ≤ x ∧ x ≤ 9223372036854775807 := by
  simp only [Value.okWide, ht, Cell.okWide, Cell.ok] at h
  cases v <;> simp at h
  obtain ⟨rfl, hn⟩ := h
  exact ⟨_, rfl, by simpa [IntKind.has, IntKind.min, IntKind.max, IntKind.signed, IntKind.bits] using hn⟩
end Go.Proofs.YtpdoioeckiiegaaGreatDoor.Wl
