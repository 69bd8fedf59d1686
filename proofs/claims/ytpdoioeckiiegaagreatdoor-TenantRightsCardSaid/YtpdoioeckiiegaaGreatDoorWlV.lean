/- Slices of slices; new rows for nil; the library's Clone and Grow. -/
import Derived.Test.YtpdoioeckiiegaaGreatDoorWlU
set_option linter.unusedSimpArgs false
set_option linter.unusedVariables false
set_option maxRecDepth 10000
namespace Go.Proofs.YtpdoioeckiiegaaGreatDoor.Wl
open Go.RowKit
/-- A slice of slices of bytes. -/
def Sls (A : Option Addr) (cap : Nat) (xs : List (List UInt8)) : PP where
  p J := xs.length ≤ cap ∧ cap ≤ 9223372036854775807 ∧ (xs = [] ∨ ∃ b o, A = some ⟨b, o, none⟩ ∧ ∀ (i : Nat) (x : List UInt8), xs[i]? = some x → ∃ A' c', J b (o + i) = some (.slice A' x.length c') ∧ (Sl E8 A' c' x).p J)
  mono := by
    rintro J J' hj ⟨h1, h2, h3⟩
    refine ⟨h1, h2, h3.imp id ?_⟩
    rintro ⟨b, o, ha, h⟩
    refine ⟨b, o, ha, fun i x hx => ?_⟩
    obtain ⟨A', c', e1, e2⟩ := h i x hx
    exact ⟨A', c', hj _ _ _ e1, (Sl E8 A' c' x).mono _ _ hj e2⟩
def EV (v : Value) : List Value := [v]
section
variable {P : Program} {w0 : World} {n : Nat} {Q : Post} {ops : Array Oper} {D : List PP} {G : List HP} {e : Env} {K : Act → World → Prop} {i d : Nat} {o : Oper}
theorem k_nil_eq {α : Type} {f : α → List Value} {cap s : Nat} {xs : List α} (di : Nat) (hD : nth D di = some (Sl f none cap xs)) (hf : ∀ x, (f x).length = s) (hs : Nat.blt 0 s = true) (h : xs = [] → WK w0 n K D G e) : WK w0 n K D G e := by
  intro a w hfit hh
  refine h ?_ a w hfit hh
  obtain ⟨J, hp, g, dd, s'⟩ := id hh
  obtain ⟨_, _, h3⟩ := dd _ (nth_mem hD)
  have hs0' : 0 < s := by simpa [Nat.blt_eq] using hs
  rcases h3 with h0 | ⟨b, p, hA, _⟩
  · have := flatMap_length hf xs
    rw [h0, List.length_nil] at this
    exact List.eq_nil_of_length_eq_zero (by
      rcases Nat.mul_eq_zero.1 this.symm with h | h
      · exact h
      · omega)
  · cases hA
/-- Parts, as a slice of slices. -/
theorem k_sls {A : Option Addr} {cap : Nat} (hs : List (Option Addr × Nat × List UInt8)) (di : Nat) (hD : nth D di = some (Sl EV A cap (hs.map fun h => .slice h.1 h.2.2.length h.2.1))) (ds : List Nat) (hE : allAt D ds = some (hs.map fun h => Sl E8 h.1 h.2.1 h.2.2))
    (h : WK w0 n K (Sls A cap (hs.map fun h => h.2.2) :: D) G e) : WK w0 n K D G e :=
  fun a w hf hh => h a w hf (hh.learn _ fun J hJ => by
    have h1 := hJ _ (nth_mem hD)
    have h2 := fun p hp => hJ p (allAt_mem hE p hp)
    obtain ⟨a1, a2, a3⟩ := h1
    rw [List.length_map] at a1
    refine ⟨by rw [List.length_map]; exact a1, a2, ?_⟩
    rcases a3 with a3 | ⟨b, p, hA, a4⟩
    · left
      cases hs with
      | nil => rfl
      | cons x l => simp [EV] at a3
    · right
      refine ⟨b, p, hA, fun i x hx => ?_⟩
      rw [List.getElem?_map] at hx
      cases hq : hs[i]? with
      | none => rw [hq] at hx; cases hx
      | some y =>
        rw [hq] at hx
        cases hx
        refine ⟨y.1, y.2.1, a4 i _ ?_, h2 _ (List.mem_map.2 ⟨y, List.mem_of_getElem? hq, rfl⟩)⟩
        have h5 := flatMap_get (f := EV) (s := 1) (fun _ => rfl) (hs.map fun h => Value.slice h.1 h.2.2.length h.2.1) i _ (by rw [List.getElem?_map, hq]; rfl) 0 _ rfl
        simpa using h5)
/-- One of them. -/
theorem k_idx_sls {A : Option Addr} {cap : Nat} {xs : List (List UInt8)} {x y : Operand} {t el : TypeId} {k : Int} (di : Nat) (hi : nth ops.toList i = some o) (ho : o.op = .indexAddr t x y) (hx : opv e x = some (.slice A xs.length cap)) {ik : IntKind} (hy : opv e y = some (.int ik k))
    (hD : nth D di = some (Sls A cap xs)) (ht : ∀ w, (underlying t).run P w = .ok (.slice el) w) (hs : ∀ w, (sizeOf el).run P w = .ok 1 w) (hk : 0 ≤ k ∧ k < xs.length) (hg : Goes e ops o) (hd : o.dst = some d) (hn : Nat.blt d n = true)
    (h : ∀ b q A' c', WK w0 n K (Sl E8 A' c' (at' [] xs k) :: Ro b q [.slice A' (at' [] xs k).length c'] :: D) G ((d, .pointer (some ⟨b, q, none⟩)) :: e)) : WK w0 n (wpOp P ops Q i K) D G e := by
  refine k_gval hi hg hd hn fun ac w hfit hh => ?_
  obtain ⟨J, hp, g, dd, s'⟩ := id hh
  obtain ⟨_, _, h3⟩ := dd _ (nth_mem hD)
  have hne : xs ≠ [] := by intro h0; rw [h0] at hk; simp at hk; omega
  obtain ⟨b, p, hA, hcs⟩ := h3.resolve_left hne
  have hget : xs[k.toNat]? = some (at' [] xs k) := at'_get [] xs hk.1 hk.2
  obtain ⟨A', c', e1, e2⟩ := hcs _ _ hget
  have hx' := hx
  rw [hA] at hx'
  have hev : Evals P e o (.pointer (some ⟨b, p + k.toNat * 1, none⟩)) (fun _ => True) := ev_idx_slice ho hx' hy ht hs (by omega) rfl
  rw [Nat.mul_one] at hev
  refine ⟨_, _, G, w, hev _ hfit.ops w trivial, ⟨J, hp, g, fun q hq => ?_, s'⟩, h b (p + k.toNat) A' c'⟩
  rcases List.mem_cons.1 hq with rfl | hq
  · exact e2
  rcases List.mem_cons.1 hq with rfl | hq
  · intro j v hv
    cases j with
    | zero => simp at hv; subst hv; exact e1
    | succ j => simp at hv
  · exact dd _ hq
/-- A slice of no elements, not nil. -/
theorem k_build0 {α : Type} (f : α → List Value) (s : Nat) {t el : TypeId} {m : Nat} (hi : nth ops.toList i = some o) (ho : o.op = .buildSlice t 0 #[]) (ht : ∀ w, (underlying t).run P w = .ok (.slice el) w) (hs : ∀ w, (sizeOf el).run P w = .ok m w) (hg : Goes e ops o) (hd : o.dst = some d) (hn : Nat.blt d n = true)
    (h : ∀ b, WK w0 n K (Sl f (some ⟨b, 0, none⟩) 0 [] :: D) (Spare (some ⟨b, 0, none⟩) 0 0 s :: G) ((d, .slice (some ⟨b, 0, none⟩) 0 0) :: e)) : WK w0 n (wpOp P ops Q i K) D G e := by
  refine k_gval hi hg hd hn fun a w hf hh => ?_
  have h1 := (hh.alloc [] el).imp (B := Spare (some ⟨w.heap.size, 0, none⟩) 0 0 s) fun J h p => .inl rfl
  have h2 := h1.learn (Sl f (some ⟨w.heap.size, 0, none⟩) 0 []) fun J _ => ⟨Nat.le_refl _, by omega, .inl rfl⟩
  exact ⟨_, _, _, _, by simp [execOp, ho, Instr.buildSlice, ht, hs, Instr.fill, newRow, Array.range_zero'], h2, h w.heap.size⟩
/-- nil gets m zero cells: the row that is made, with all its room. -/
theorem k_grow_nil {α : Type} (f : α → List Value) {t tx el : TypeId} {x y : Operand} {ti : TypeInfo} {z : Value} {m s : Nat} {ik : IntKind} (hi : nth ops.toList i = some o) (ho : o.op = .call ⟨.builtin .append, #[x, y], #[t, tx]⟩) (hx : opv e x = some (.slice none 0 0)) (hy : opv e y = some (vi m))
    (ht : P.underlying t = some (.slice el)) (htx : P.underlying tx = some (.int ik)) (hti : P.info? el = some ti) (hz : ti.zero = some z) (hzs : z.cells.size = s) (hts : ti.size = s) (hs0 : Nat.blt 0 s = true) (hby : Nat.ble ti.bytes 2048 = true) (hm0 : 0 < m) (hm : m ≤ 68719476736) (hg : Goes e ops o) (hd : o.dst = some d) (hn : Nat.blt d n = true)
    (h : ∀ b c, WK w0 n K (Sl f (some ⟨b, 0, none⟩) c [] :: D) (Spare (some ⟨b, 0, none⟩) 0 c s :: G) ((d, .slice (some ⟨b, 0, none⟩) m c) :: e)) : WK w0 n (wpOp P ops Q i K) D G e := by
  refine k_gval hi hg hd hn fun a w hf hh => ?_
  have hby' : ti.bytes ≤ 2048 := Nat.le_of_ble_eq_true hby
  have hs0' : 0 < s := by simpa [Nat.blt_eq] using hs0
  have hmul : m * ti.bytes ≤ 140737488355328 := Nat.le_trans (Nat.mul_le_mul hm hby') (by decide)
  have hge := grownCap_ge w m 0 el
  have hmax := grownCap_le_maxLen w m 0 el (by unfold maxLen; omega)
  have hwr : IntKind.i64.wrap (m : Int) = m := by rw [IntKind.wrap_i64]; omega
  have h2 : ¬ ((281474976710656 : Int) < (m : Int) * ti.bytes) := by
    have : ((m * ti.bytes : Nat) : Int) ≤ ((140737488355328 : Nat) : Int) := Int.ofNat_le.2 hmul
    rw [Int.natCast_mul] at this
    omega
  have h3 : Builtin.nextslicecap m 0 = m := by unfold Builtin.nextslicecap; rw [if_pos (by omega)]
  have h4 : ¬ (281474976710656 < m * ti.bytes) := by omega
  have h5 : ¬ (9223372036854775807 < (m : Int)) := by omega
  have h6 : ¬ (m * ti.size = 0) := by rw [hts]; exact Nat.pos_iff_ne_zero.1 (Nat.mul_pos hm0 hs0')
  have h7 : ¬ (m ≤ 0) := by omega
  have hr : (Builtin.append_ #[t, tx] o.type #[.slice none 0 0, .int .i64 m]).run P w = .ok (.slice (some ⟨w.heap.size, 0, none⟩) m (grownCap w m 0 el))
        (w.drew.alloc (.cells (Builtin.zeroCells z.cells m ++ Builtin.zeroCells z.cells (grownCap w m 0 el - m)) el)) := by
    simp [Builtin.append_, run_underlying ht, run_underlying htx, sizeOf, typeInfo, zeroValue, hti, hz, asInt, asIntOf, hwr, h2, h3, h4, h5, h6, h7, Question.forced, Builtin.firstCells, newRow, grownCap]
    rw [if_neg (by omega), if_neg (by omega)]
  generalize grownCap w m 0 el = c at *
  have h8 := (hh.drew (w.drawn + 1)).alloc (Builtin.zeroCells z.cells m ++ Builtin.zeroCells z.cells (c - m)).toList el
  rw [Array.toArray_toList] at h8
  have h9 := h8.imp (B := Spare (some ⟨w.heap.size, 0, none⟩) 0 c s) fun J h p => .inr ⟨w.heap.size, 0, rfl, (Builtin.zeroCells z.cells m ++ Builtin.zeroCells z.cells (c - m)).toList, by
    rw [Array.length_toList, Array.size_append, size_zeroCells, size_zeroCells, hzs, ← Nat.add_mul]; congr 1; omega, fun j v hv => by
    have := p j v hv
    simpa using this⟩
  have h10 := h9.learn (Sl f (some ⟨w.heap.size, 0, none⟩) c []) fun J _ => ⟨Nat.zero_le _, by unfold maxLen at hmax; omega, .inl rfl⟩
  exact ⟨_, _, _, _, by simp only [execOp, ho, resolve, invoke, builtin, hf.ops _ _ hx, hf.ops _ _ hy, vi]; simp [hf.ops _ _ hx, hf.ops _ _ hy, vi, hr], h10, h w.heap.size c⟩
/-- The beginning of a slice, up to an index, by address alone. -/
theorem ev_slice_to {C : World → Prop} {t el : TypeId} {x y : Operand} {A : Option Addr} {m cap s : Nat} {k : Int} (ho : o.op = .slice t x none (some y) none) (hx : opv e x = some (.slice A m cap)) {ik : IntKind} (hy : opv e y = some (.int ik k)) (ht : ∀ w, (underlying t).run P w = .ok (.slice el) w) (hs : ∀ w, (sizeOf el).run P w = .ok s w) (hk : 0 ≤ k ∧ k ≤ cap) :
    Evals P e o (.slice A k.toNat cap) C := by
  intro ρ hρ w _
  have ha : ∀ a : Addr, a.add 0 = a := by intro a; unfold Addr.add; split <;> simp_all
  cases A <;> simp [execOp, ho, hρ _ _ hx, hρ _ _ hy, Instr.sliceAt, Instr.slice, ht, hs, Instr.sliceBounds, Instr.sliceBound, asIntOf, hk, ha]
theorem ev_cap {C : World → Prop} {x : Operand} {t el : TypeId} {A : Option Addr} {m cap : Nat} (ho : o.op = .call ⟨.builtin .cap, #[x], #[t]⟩) (hx : opv e x = some (.slice A m cap)) (ht : ∀ w, (underlying t).run P w = .ok (.slice el) w) : Evals P e o (vi cap) C := by
  intro ρ hρ w _
  simp [execOp, ho, resolve, invoke, builtin, hρ _ _ hx, Builtin.cap_, ht, goInt, vi]
/-- A slot's value, told otherwise. -/
theorem k_eq (t : Nat) {v v' : Value} (hv : get e t = some v) (he : v = v') (h : WK w0 n K D G ((t, v') :: e)) : WK w0 n K D G e := by
  subst he
  intro a w hf hh
  refine h a w ⟨hf.defers, hf.size, fun u x hu => ?_⟩ hh
  simp only [Wl.get] at hu
  cases hbt : Nat.beq t u with
  | true =>
    rw [hbt] at hu
    have htu := Nat.eq_of_beq_eq_true hbt
    subst htu
    cases hu
    exact hf.get _ _ hv
  | false => rw [hbt] at hu; exact hf.get _ _ hu
/-- A slice that is full has no room to own. -/
theorem k_spare_full (A : Option Addr) (m cap s : Nat) (hm : m = cap) (h : WK w0 n K D (Spare A m cap s :: G) e) : WK w0 n K D G e :=
  fun a w hf hh => h a w hf (by
    obtain ⟨J, k, g, d, s'⟩ := hh
    exact ⟨J, k, g, d, fun _ _ => none, k, fun _ _ => .inl rfl, (by intro b o x e; simp at e), Hp.le_refl _, .inl hm, s'⟩)
theorem ne_of_len {α : Type} {f : α → List Value} {s m : Nat} {xs : List α} (hf : ∀ x, (f x).length = s) (hs : Nat.blt 0 s = true) (hm : Nat.blt 0 m = true) (h : m ≤ xs.length) : xs.flatMap f ≠ [] := by
  intro h0
  have h1 := flatMap_length hf xs
  rw [h0, List.length_nil] at h1
  have h2 : 0 < s := by simpa [Nat.blt_eq] using hs
  have h3 : 0 < m := by simpa [Nat.blt_eq] using hm
  have := Nat.mul_pos (show 0 < xs.length by omega) h2
  omega
theorem sub_of {α : Type} {f : α → List Value} {m : Nat} (df : α) (xs : List α) (h : m ≤ xs.length) : SubAt (xs.flatMap f) 0 ((Arr.of df m xs).l.flatMap f) := by
  have h1 : (Arr.of df m xs).l = xs.take m := by
    simp [Arr.of, List.take_append, Nat.sub_eq_zero_of_le h]
  rw [h1]
  intro i v hv
  have h2 : xs.flatMap f = (xs.take m).flatMap f ++ (xs.drop m).flatMap f := by rw [← List.flatMap_append, List.take_append_drop]
  rw [Nat.zero_add, h2, List.getElem?_append_left (List.getElem?_eq_some_iff.1 hv).1]
  exact hv
theorem spl_map {α : Type} {f : α → List Value} {s : Nat} (hf : ∀ x, (f x).length = s) (xs : List α) {k : Int} (v : α) (hk : 0 ≤ k ∧ k < xs.length) {q : Nat} (hq : k.toNat * s = q) : Spl (xs.flatMap f) q (f v) ((xs.set k.toNat v).flatMap f) := by
  subst hq
  exact flatMap_set hf xs k.toNat v (by omega)
end
end Go.Proofs.YtpdoioeckiiegaaGreatDoor.Wl
