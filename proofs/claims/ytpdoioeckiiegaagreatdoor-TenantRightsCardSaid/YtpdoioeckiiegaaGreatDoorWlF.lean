/- Loads, joins, loops. -/
import Derived.Test.YtpdoioeckiiegaaGreatDoorWlE
import Derived.Test.YtpdoioeckiiegaaGreatDoorWlM
set_option linter.unusedSimpArgs false
set_option linter.unusedVariables false
namespace Go.Proofs.YtpdoioeckiiegaaGreatDoor.Wl
open Go.RowKit

/-- The cells from place j on are these. -/
def SubAt (cs : List Value) (j : Nat) (s : List Value) : Prop := ∀ i v, s[i]? = some v → cs[j + i]? = some v
theorem sub_nth {cs : List Value} {j : Nat} {v : Value} (h : nth cs j = some v) : SubAt cs j [v] := by
  intro i u hu
  rw [nth_eq] at h
  cases i with
  | zero => simp at hu; subst hu; simpa using h
  | succ i => simp at hu
theorem sub_all (cs : List Value) : SubAt cs 0 cs := fun i v h => by simpa using h
theorem sub_skip {a b s : List Value} {n j q : Nat} (h : SubAt b j s) (hl : a.length = n) (hq : n + j = q) : SubAt (a ++ b) q s := by
  intro i v hv
  subst hq hl
  rw [List.getElem?_append_right (by omega), show a.length + j + i - a.length = j + i by omega]
  exact h i v hv
theorem sub_head {a b s : List Value} {j : Nat} (h : SubAt a j s) : SubAt (a ++ b) j s := by
  intro i v hv
  have := h i v hv
  rw [List.getElem?_append_left (List.getElem?_eq_some_iff.1 this).1]
  exact this
theorem sub_sub {a b s : List Value} {i j q : Nat} (h : SubAt a i b) (k : SubAt b j s) (hq : i + j = q) : SubAt a q s := by
  intro m v hv
  subst hq
  rw [Nat.add_assoc]
  exact h _ _ (k m v hv)
theorem sub_map {α : Type} {f : α → List Value} {s : Nat} (hf : ∀ x, (f x).length = s) (df : α) {xs : List α} {k : Int} {q : Nat} (hk : 0 ≤ k ∧ k < xs.length) (hq : k.toNat * s = q) : SubAt (xs.flatMap f) q (f (at' df xs k)) := by
  intro i v hv
  subst hq
  exact flatMap_get hf xs _ _ (at'_get df xs hk.1 hk.2) i v hv
theorem Has.sub {b o q j : Nat} {cs s : List Value} {w : World} (h : Has b o cs w) (hs : SubAt cs j s) (hq : o + j = q) : Has b q s w := by
  intro i v hv
  subst hq
  rw [Nat.add_assoc]
  exact h _ _ (hs i v hv)

section
variable {P : Program} {w0 : World} {n : Nat} {Q : Post} {ops : Array Oper} {D : List PP} {G : List HP} {e : Env} {i d : Nat} {o : Oper} {l : List Nat}
/-- The same without a word on the world. -/
theorem o_pu {v : Value} (hi : nth ops.toList i = some o) (hev : Evals P e o v (fun _ => True)) (hg : Goes e ops o) (hd : o.dst = some d) (hn : Nat.blt d n = true) (h : WO P w0 n Q ops D G ((d, v) :: e) l) : WO P w0 n Q ops D G e (i :: l) :=
  o_pure hi hev (fun _ _ => trivial) hg hd hn h
theorem ev_ld1 {t : TypeId} {x : Operand} {b p q j : Nat} {v : Value} {cs : List Value} (ho : o.op = .load t x) (hx : opv e x = some (.pointer (some ⟨b, q, none⟩)))
    (ht : ∀ w, (isAgg t).run P w = .ok false w) (hs : SubAt cs j [v]) (hq : p + j = q) : Evals P e o v (Has b p cs) :=
  ev_load1 ho hx ht fun w hC => (hC.sub hs hq) 0 v rfl
theorem ev_ldN {t : TypeId} {x : Operand} {b p q j : Nat} {cs s : List Value} (ho : o.op = .load t x) (hx : opv e x = some (.pointer (some ⟨b, q, none⟩)))
    (ht : ∀ w, (isAgg t).run P w = .ok true w) (hn : ∀ w, (sizeOf t).run P w = .ok s.length w) (hs : SubAt cs j s) (hq : p + j = q) : Evals P e o (.agg s.toArray) (Has b p cs) :=
  ev_loadN ho hx ht hn fun w hC => hC.sub hs hq
/-- Where a load finds its cells: a token, or a fact. -/
theorem hG (g : Nat) {b p : Nat} {cs : List Value} (h : nth G g = some (At b p cs)) : ∀ w, Holds w0 D G w → Has b p cs w := fun _ hh => (hh.at_ h).1
theorem hD (g : Nat) {b p : Nat} {cs : List Value} (h : nth D g = some (Ro b p cs)) : ∀ w, Holds w0 D G w → Has b p cs w := fun _ hh => hh.ro h
/-- The same as o_pure, what is known of the world first. -/
theorem o_ld {C : World → Prop} {v : Value} (hC : ∀ w, Holds w0 D G w → C w) (hi : nth ops.toList i = some o) (hev : Evals P e o v C) (hg : Goes e ops o) (hd : o.dst = some d) (hn : Nat.blt d n = true) (h : WO P w0 n Q ops D G ((d, v) :: e) l) : WO P w0 n Q ops D G e (i :: l) :=
  o_pure hi hev hC hg hd hn h
variable {K : Act → World → Prop}
theorem k_nil_sl {α : Type} (f : α → List Value) (h : WK w0 n K (Sl f none 0 [] :: D) G e) : WK w0 n K D G e :=
  fun a w hf hh => h a w hf (hh.learn _ fun _ _ => ⟨Nat.le_refl _, by omega, .inl rfl⟩)
/-- A slot's bool gets a name. -/
theorem k_name (t : Nat) {b : Bool} (hb : get e t = some (vb b)) (h : ∀ b', b' = b → WK w0 n K D G ((t, vb b') :: e)) : WK w0 n K D G e := by
  intro a w hf hh
  refine h b rfl a w ⟨hf.defers, hf.size, fun u v hu => ?_⟩ hh
  simp only [Wl.get] at hu
  cases hbt : Nat.beq t u with
  | true =>
    rw [hbt] at hu
    simp at hu
    subst hu
    rw [← Nat.eq_of_beq_eq_true hbt]
    exact hf.get _ _ hb
  | false => rw [hbt] at hu; exact hf.get _ _ hu
/-- Ways that meet again inside a region, with a bool in a slot. -/
theorem o_jb {ρ : Type} {R : Bool → Option ρ} {F : (Bool → Option ρ) → Option ρ} {r : ρ} (t : Nat) (l' ts : List Nat) {e1 : Env} (H : jn R F = some r) (hk : keepEnv e ts = some e1)
    (hJ : ∀ b, R b = some r → WO P w0 n Q ops D G ((t, vb b) :: e1) l')
    (hF : ∀ R : Bool → Option ρ, (∀ b, R b = some r → WO P w0 n Q ops D G ((t, vb b) :: e1) l') → F R = some r → WO P w0 n Q ops D G e l) : WO P w0 n Q ops D G e l := hF R hJ H
/-- A loop whose model goes by fuel. -/
theorem loop_ind {ρ S Y : Type} {c : Code} (st : S → Y → St) (m : Nat → S → Option ρ) (r : ρ) (h0 : ∀ s, m 0 s = none)
    (step : ∀ k s y, (∀ s' y', m k s' = some r → WL P w0 n Q (st s' y').D (st s' y').G (st s' y').e c) → m (k + 1) s = some r → WS P w0 n (Exit.then (Lw P c Q) Q) (st s y).D (st s y).G (st s y).e c) :
    ∀ k s y, m k s = some r → WL P w0 n Q (st s y).D (st s y).G (st s y).e c := by
  intro k
  induction k with
  | zero => intro s y h; rw [h0] at h; cases h
  | succ k ih => intro s y h; exact l_round (step k s y ih h)
end
end Go.Proofs.YtpdoioeckiiegaaGreatDoor.Wl
