/- Slices that are read: what they hold, their parts, their elements. -/
import Derived.Test.YtpdoioeckiiegaaGreatDoorWlD
set_option linter.unusedSimpArgs false
set_option linter.unusedVariables false
namespace Go.Proofs.YtpdoioeckiiegaaGreatDoor.Wl
open Go.RowKit

/-- A slice of n elements reads as these cells, which nothing writes any more. -/
def Rd (A : Option Addr) (n cap : Nat) (cs : List Value) : PP where
  p J := n ≤ cap ∧ cap ≤ 9223372036854775807 ∧ (cs = [] ∨ ∃ b o, A = some ⟨b, o, none⟩ ∧ ∀ j v, cs[j]? = some v → J b (o + j) = some v)
  mono := by
    rintro J J' hj ⟨h1, h2, h3⟩
    refine ⟨h1, h2, h3.imp id ?_⟩
    rintro ⟨b, o, ha, h⟩
    exact ⟨b, o, ha, fun j v e => hj _ _ _ (h j v e)⟩
/-- A slice of elements, each of which is the cells f. -/
def Sl {α : Type} (f : α → List Value) (A : Option Addr) (cap : Nat) (xs : List α) : PP := Rd A xs.length cap (xs.flatMap f)
def E8 (x : UInt8) : List Value := [v8 x]
def Ei (x : Int) : List Value := [vi x]
/-- The element at an index. -/
def at' {α : Type} (d : α) (xs : List α) (k : Int) : α := xs.getD k.toNat d
/-- From an index on, up to another. -/
def slc {α : Type} (xs : List α) (l h : Int) : List α := (xs.drop l.toNat).take (h - l).toNat

theorem bsz (l : List UInt8) : (ByteArray.mk l.toArray).size = l.length := by show l.toArray.size = _; simp
theorem flatMap_length {α : Type} {f : α → List Value} {s : Nat} (hf : ∀ x, (f x).length = s) : ∀ xs : List α, (xs.flatMap f).length = xs.length * s := by
  intro xs
  induction xs with
  | nil => simp
  | cons x xs ih => simp [hf, ih, Nat.add_mul]; omega
theorem flatMap_get {α : Type} {f : α → List Value} {s : Nat} (hf : ∀ x, (f x).length = s) : ∀ (xs : List α) (k : Nat) (x : α), xs[k]? = some x → ∀ j v, (f x)[j]? = some v → (xs.flatMap f)[k * s + j]? = some v := by
  intro xs
  induction xs with
  | nil => intro k x h; simp at h
  | cons y xs ih =>
    intro k x h j v hv
    have hj : j < s := by rw [← hf x]; exact (List.getElem?_eq_some_iff.1 hv).1
    cases k with
    | zero =>
      simp at h
      subst h
      simp only [List.flatMap_cons]
      rw [List.getElem?_append_left (by rw [hf]; omega)]
      simpa using hv
    | succ k =>
      simp only [List.flatMap_cons]
      rw [List.getElem?_append_right (by rw [hf, Nat.add_mul]; omega), hf]
      rw [show (k + 1) * s + j - s = k * s + j by rw [Nat.add_mul]; omega]
      exact ih k x (by simpa using h) j v hv
theorem at'_get {α : Type} (d : α) (xs : List α) {k : Int} (h0 : 0 ≤ k) (h1 : k < xs.length) : xs[k.toNat]? = some (at' d xs k) := by
  have : k.toNat < xs.length := by omega
  simp [at', List.getD, this]
theorem slc_length {α : Type} (xs : List α) {l h : Int} (h0 : 0 ≤ l) (h1 : l ≤ h) (h2 : h ≤ xs.length) : (slc xs l h).length = (h - l).toNat := by
  simp [slc]; omega
theorem slc_flatMap {α : Type} {f : α → List Value} {s : Nat} (hf : ∀ x, (f x).length = s) (xs : List α) (l m : Nat) (hl : l + m ≤ xs.length) :
    ∀ j v, (((xs.drop l).take m).flatMap f)[j]? = some v → (xs.flatMap f)[l * s + j]? = some v := by
  intro j v hv
  have h1 : xs = xs.take l ++ ((xs.drop l).take m ++ (xs.drop l).drop m) := by rw [List.take_append_drop, List.take_append_drop]
  rw [h1]
  simp only [List.flatMap_append]
  have hlen : ((xs.take l).flatMap f).length = l * s := by rw [flatMap_length hf, List.length_take, Nat.min_eq_left (by omega)]
  rw [List.getElem?_append_right (by omega), hlen, show l * s + j - l * s = j by omega]
  rw [List.getElem?_append_left (List.getElem?_eq_some_iff.1 hv).1]
  exact hv

section
variable {P : Program} {e : Env} {o : Oper} {C : World → Prop}
theorem ev_len_slice {x : Operand} {t el : TypeId} {A : Option Addr} {m cap : Nat} (ho : o.op = .call ⟨.builtin .len, #[x], #[t]⟩) (hx : opv e x = some (.slice A m cap)) (ht : ∀ w, (underlying t).run P w = .ok (.slice el) w) : Evals P e o (vi m) C := by
  intro ρ hρ w _; simp [execOp, ho, resolve, invoke, builtin, Builtin.len_, hρ _ _ hx, ht, goInt, vi]
theorem ev_len_string {x : Operand} {t : TypeId} {l : List UInt8} (ho : o.op = .call ⟨.builtin .len, #[x], #[t]⟩) (hx : opv e x = some (vs l)) (ht : ∀ w, (underlying t).run P w = .ok .string w) : Evals P e o (vi l.length) C := by
  intro ρ hρ w _; simp [execOp, ho, resolve, invoke, builtin, Builtin.len_, hρ _ _ hx, ht, goInt, vi, vs, bsz]
theorem ev_min {x y : Operand} {t u : TypeId} {a b : Int} (ho : o.op = .call ⟨.builtin .min, #[x, y], #[t, u]⟩) (hx : opv e x = some (vi a)) (hy : opv e y = some (vi b)) : Evals P e o (vi (if b < a then b else a)) C := by
  intro ρ hρ w _; simp [execOp, ho, resolve, invoke, builtin, Builtin.min_, Builtin.min2, hρ _ _ hx, hρ _ _ hy, vi, List.foldlM]
theorem ev_max {x y : Operand} {t u : TypeId} {a b : Int} (ho : o.op = .call ⟨.builtin .max, #[x, y], #[t, u]⟩) (hx : opv e x = some (vi a)) (hy : opv e y = some (vi b)) : Evals P e o (vi (if a < b then b else a)) C := by
  intro ρ hρ w _; simp [execOp, ho, resolve, invoke, builtin, Builtin.max_, Builtin.max2, hρ _ _ hx, hρ _ _ hy, vi, List.foldlM]
/-- A byte of a text. -/
theorem ev_index_string {x y : Operand} {t : TypeId} {l : List UInt8} {k : Int} (ho : o.op = .index t x y) (hx : opv e x = some (vs l)) {ik : IntKind} (hy : opv e y = some (.int ik k)) (ht : ∀ w, (underlying t).run P w = .ok .string w) (hk : 0 ≤ k ∧ k < l.length) : Evals P e o (v8 (at' 0 l k)) C := by
  intro ρ hρ w _
  have h1 : k.toNat < l.length := by omega
  have h2 : (⟨l.toArray⟩ : ByteArray)[k.toNat]? = some (at' 0 l k) := by
    have h3 := at'_get (0 : UInt8) l hk.1 hk.2
    have hsz : k.toNat < (⟨l.toArray⟩ : ByteArray).size := by rw [bsz]; exact h1
    rw [getElem?_pos (⟨l.toArray⟩ : ByteArray) k.toNat hsz]
    rw [List.getElem?_eq_getElem h1] at h3
    exact h3
  simp [execOp, ho, hρ _ _ hx, hρ _ _ hy, Instr.index, asIntOf, vi, vs, v8, ht, hk.1, h2]
/-- The place of an element of a slice that lies at a known place, or of an array. -/
theorem ev_idx_slice {x y : Operand} {t el : TypeId} {b p m cap s q : Nat} {k : Int} (ho : o.op = .indexAddr t x y) (hx : opv e x = some (.slice (some ⟨b, p, none⟩) m cap)) {ik : IntKind} (hy : opv e y = some (.int ik k)) (ht : ∀ w, (underlying t).run P w = .ok (.slice el) w) (hs : ∀ w, (sizeOf el).run P w = .ok s w) (hk : 0 ≤ k ∧ k < m) (hq : p + k.toNat * s = q) : Evals P e o (.pointer (some ⟨b, q, none⟩)) C := by
  intro ρ hρ w _
  subst hq
  have ha : (⟨b, p, none⟩ : Addr).add (k.toNat * s) = ⟨b, p + k.toNat * s, none⟩ := by
    unfold Addr.add
    split
    · rename_i h0; simp [h0]
    · rfl
  simp [execOp, ho, hρ _ _ hx, hρ _ _ hy, Instr.indexAt, asIntOf, vi, ht, hs, hk, ha]
theorem ev_idx_array {x y : Operand} {t el : TypeId} {b p m s q : Nat} {k : Int} (ho : o.op = .indexAddr t x y) (hx : opv e x = some (.pointer (some ⟨b, p, none⟩))) {ik : IntKind} (hy : opv e y = some (.int ik k)) (ht : ∀ w, (underlying t).run P w = .ok (.array m el) w) (hs : ∀ w, (sizeOf el).run P w = .ok s w) (hk : 0 ≤ k ∧ k < m) (hq : p + k.toNat * s = q) : Evals P e o (.pointer (some ⟨b, q, none⟩)) C := by
  intro ρ hρ w _
  subst hq
  have ha : (⟨b, p, none⟩ : Addr).add (k.toNat * s) = ⟨b, p + k.toNat * s, none⟩ := by
    unfold Addr.add
    split
    · rename_i h0; simp [h0]
    · rfl
  simp [execOp, ho, hρ _ _ hx, hρ _ _ hy, Instr.indexAt, Instr.sureAddr, asIntOf, vi, ht, hs, hk, ha]
/-- Part of a text. -/
theorem ev_slice_string {ka kb : IntKind} {x : Operand} {t : TypeId} {lo hi : Option Operand} {l : List UInt8} {a b : Int} (ho : o.op = .slice t x lo hi none) (hx : opv e x = some (vs l)) (ht : ∀ w, (underlying t).run P w = .ok .string w)
    (hlo : lo.map (opv e) = none ∧ a = 0 ∨ lo.map (opv e) = some (some (.int ka a))) (hhi : hi.map (opv e) = none ∧ b = l.length ∨ hi.map (opv e) = some (some (.int kb b))) (hk : 0 ≤ a ∧ a ≤ b ∧ b ≤ l.length) : Evals P e o (vs (slc l a b)) C := by
  intro ρ hρ w _
  have hx' : (⟨l.toArray⟩ : ByteArray).extract a.toNat b.toNat = ⟨(slc l a b).toArray⟩ := by
    apply ByteArray.ext
    simp [slc, ByteArray.data_extract, List.extract_toArray, List.extract_eq_take_drop]
    congr 1; omega
  have h1 : (0 ≤ b ∧ b ≤ (l.length : Int)) := by omega
  have h2 : (0 ≤ a ∧ a ≤ (b.toNat : Int)) := by omega
  have h9 : ¬ (max b 0 < a) := by omega
  rcases hlo with ⟨hlo, rfl⟩ | hlo <;> rcases hhi with ⟨hhi, rfl⟩ | hhi <;> cases lo <;> cases hi <;> simp at hlo hhi
  · simp at hx'
    simp [execOp, ho, hρ _ _ hx, Instr.sliceAt, ht, Instr.slice, vs, Instr.sliceBounds, bsz, slc]
  · simp at hx'
    simp [execOp, ho, hρ _ _ hx, hρ _ _ hhi, Instr.sliceAt, ht, Instr.slice, vs, vi, Instr.sliceBounds, Instr.sliceBound, asIntOf, bsz, h1, hx']
  · simp at hx'
    have h3 : (0 ≤ a ∧ a ≤ (l.length : Int)) := by omega
    simp [execOp, ho, hρ _ _ hx, hρ _ _ hlo, Instr.sliceAt, ht, Instr.slice, vs, vi, Instr.sliceBounds, Instr.sliceBound, asIntOf, bsz, h3, hx']
  · simp [execOp, ho, hρ _ _ hx, hρ _ _ hlo, hρ _ _ hhi, Instr.sliceAt, ht, Instr.slice, vs, vi, Instr.sliceBounds, Instr.sliceBound, asIntOf, bsz, h1, h2, h9, hk.1, hx']
end

section
variable {P : Program} {w0 : World} {n : Nat} {Q : Post} {ops : Array Oper} {D : List PP} {G : List HP} {e : Env} {K : Act → World → Prop} {i d : Nat} {o : Oper} {l : List Nat}
theorem Holds.sl {α : Type} {f : α → List Value} {A : Option Addr} {cap : Nat} {xs : List α} {w : World} (h : Holds w0 D G w) {i : Nat} (hi : nth D i = some (Sl f A cap xs)) : xs.length ≤ cap ∧ cap ≤ 9223372036854775807 := by
  obtain ⟨J, k, g, d, _⟩ := h
  obtain ⟨h1, h2, _⟩ := d _ (nth_mem hi)
  exact ⟨h1, h2⟩
/-- The place of an element of a slice that is read. -/
theorem k_idx {α : Type} {f : α → List Value} {A : Option Addr} {cap s : Nat} {xs : List α} {x y : Operand} {t el : TypeId} {k : Int} (df : α) (di : Nat) (hi : nth ops.toList i = some o) (ho : o.op = .indexAddr t x y) (hx : opv e x = some (.slice A xs.length cap)) {ik : IntKind} (hy : opv e y = some (.int ik k))
    (hD : nth D di = some (Sl f A cap xs)) (hf : ∀ x, (f x).length = s) (hs0 : Nat.blt 0 s = true) (ht : ∀ w, (underlying t).run P w = .ok (.slice el) w) (hs : ∀ w, (sizeOf el).run P w = .ok s w) (hk : 0 ≤ k ∧ k < xs.length) (hg : Goes e ops o) (hd : o.dst = some d) (hn : Nat.blt d n = true)
    (h : ∀ b q, WK w0 n K (Ro b q (f (at' df xs k)) :: D) G ((d, .pointer (some ⟨b, q, none⟩)) :: e)) : WK w0 n (wpOp P ops Q i K) D G e := by
  refine k_gval hi hg hd hn fun a w hfit hh => ?_
  obtain ⟨J, hp, g, dd, s'⟩ := id hh
  obtain ⟨_, _, h3⟩ := dd _ (nth_mem hD)
  have hs0' : 0 < s := by simpa [Nat.blt_eq] using hs0
  have hlen := flatMap_length hf xs
  have hne : xs.flatMap f ≠ [] := by
    intro h0
    rw [h0, List.length_nil] at hlen
    have h5 := Nat.mul_pos (show 0 < xs.length by omega) hs0'
    omega
  obtain ⟨b, p, rfl, hcs⟩ := h3.resolve_left hne
  have hev := ev_idx_slice (C := fun _ => True) ho hx hy ht hs hk rfl a.eval hfit.ops w trivial
  refine ⟨_, _, _, _, hev, ?_, h _ _⟩
  refine hh.learn (Ro b (p + k.toNat * s) (f (at' df xs k))) fun J hJ => ?_
  obtain ⟨_, _, h3⟩ := hJ _ (nth_mem hD)
  obtain ⟨b', p', hA, hcs⟩ := h3.resolve_left hne
  cases hA
  intro j v hv
  rw [Nat.add_assoc]
  exact hcs _ _ (flatMap_get hf xs k.toNat _ (at'_get df xs hk.1 hk.2) j v hv)
/-- Part of a slice that is read. -/
theorem k_slice {ka kb : IntKind} {α : Type} {f : α → List Value} {A : Option Addr} {cap s : Nat} {xs : List α} {x : Operand} {t el : TypeId} {lo hi' : Option Operand} {a b : Int} (di : Nat) (hi : nth ops.toList i = some o) (ho : o.op = .slice t x lo hi' none) (hx : opv e x = some (.slice A xs.length cap))
    (hD : nth D di = some (Sl f A cap xs)) (hf : ∀ x, (f x).length = s) (ht : ∀ w, (underlying t).run P w = .ok (.slice el) w) (hs : ∀ w, (sizeOf el).run P w = .ok s w)
    (hlo : lo.map (opv e) = none ∧ a = 0 ∨ lo.map (opv e) = some (some (.int ka a))) (hhi : hi'.map (opv e) = none ∧ b = xs.length ∨ hi'.map (opv e) = some (some (.int kb b))) (hk : 0 ≤ a ∧ a ≤ b ∧ b ≤ xs.length) (hg : Goes e ops o) (hd : o.dst = some d) (hn : Nat.blt d n = true)
    (h : ∀ A' cap', WK w0 n K (Sl f A' cap' (slc xs a b) :: D) G ((d, .slice A' (slc xs a b).length cap') :: e)) : WK w0 n (wpOp P ops Q i K) D G e := by
  refine k_gval hi hg hd hn fun ac w hfit hh => ?_
  have hcap := hh.sl hD
  have hlen := slc_length xs hk.1 hk.2.1 hk.2.2
  have hρ := hfit.ops
  have hrun : (execOp ac.eval o).run P w = .ok (.value (.slice (if cap = a.toNat then A else A.map (·.add (a.toNat * s))) (slc xs a b).length (cap - a.toNat))) w := by
    rw [hlen]
    have h1 : (0 ≤ b ∧ b ≤ (cap : Int)) := by omega
    have h2 : (0 ≤ a ∧ a ≤ (b.toNat : Int)) := by omega
    have h9 : ¬ (max b 0 < a) := by omega
    have h4 : b.toNat - a.toNat = (b - a).toNat := by omega
    rcases hlo with ⟨hlo, rfl⟩ | hlo <;> rcases hhi with ⟨hhi, rfl⟩ | hhi <;> cases lo <;> cases hi' <;> simp at hlo hhi
    · simp [execOp, ho, hρ _ _ hx, Instr.sliceAt, ht, Instr.slice, Instr.sliceBounds, hs]
    · simp at h4
      simp [execOp, ho, hρ _ _ hx, hρ _ _ hhi, Instr.sliceAt, ht, Instr.slice, vi, Instr.sliceBounds, Instr.sliceBound, asIntOf, h1, hs]
    · have h3 : (0 ≤ a ∧ a ≤ (xs.length : Int)) := by omega
      have h5 : xs.length - a.toNat = ((xs.length : Int) - a).toNat := by omega
      simp [execOp, ho, hρ _ _ hx, hρ _ _ hlo, Instr.sliceAt, ht, Instr.slice, vi, Instr.sliceBounds, Instr.sliceBound, asIntOf, h3, hs, h5]
    · simp [execOp, ho, hρ _ _ hx, hρ _ _ hlo, hρ _ _ hhi, Instr.sliceAt, ht, Instr.slice, vi, Instr.sliceBounds, Instr.sliceBound, asIntOf, h1, h2, h9, hk.1, hs, h4]
  refine ⟨_, _, _, _, hrun, hh.learn (Sl f _ (cap - a.toNat) (slc xs a b)) fun J hJ => ?_, h _ _⟩
  obtain ⟨g1, g2, g3⟩ := hJ _ (nth_mem hD)
  refine ⟨by rw [hlen]; omega, by omega, ?_⟩
  by_cases hemp : (slc xs a b).flatMap f = []
  · exact .inl hemp
  · right
    have hsl : (slc xs a b) ≠ [] := fun h0 => hemp (by rw [h0]; rfl)
    have hpos : 0 < (slc xs a b).length := List.length_pos_iff.2 hsl
    have hne : xs.flatMap f ≠ [] := by
      intro h0
      apply hemp
      obtain ⟨v, hv⟩ : ∃ v, ((slc xs a b).flatMap f)[0]? = some v := ⟨_, List.getElem?_eq_getElem (List.length_pos_iff.2 hemp)⟩
      have := slc_flatMap hf xs a.toNat (b - a).toNat (by omega) 0 v hv
      rw [h0] at this
      simp at this
    obtain ⟨b', p', rfl, hcs⟩ := g3.resolve_left hne
    have hneq : cap ≠ a.toNat := by omega
    rw [if_neg hneq]
    refine ⟨b', p' + a.toNat * s, ?_, fun j v hv => ?_⟩
    · show some _ = some _
      congr 1
      unfold Addr.add
      split
      · rename_i h0; simp [h0]
      · rfl
    · rw [Nat.add_assoc]
      exact hcs _ _ (slc_flatMap hf xs a.toNat (b - a).toNat (by omega) j v hv)
end
end Go.Proofs.YtpdoioeckiiegaaGreatDoor.Wl
