/- Where a function ends. -/
import Derived.Test.YtpdoioeckiiegaaGreatDoorWlH
set_option linter.unusedSimpArgs false
set_option linter.unusedVariables false
namespace Go.Proofs.YtpdoioeckiiegaaGreatDoor.Wl
open Go.RowKit
section ret
variable {P : Program} {w0 : World} {n : Nat} {fn : Func} {D D0 : List PP} {G G0 : List HP} {e : Env} {post : Value → List PP → List HP → Prop}
def rvRun (tmps : Array Value) (r : ResultVar) : Sem Value :=
  match r with
  | .tmp t => pure (tmps.getD t undef)
  | .cell a t => do loadVar t (← asAddr (tmps.getD a undef))
theorem results_eq (fn : Func) (tmps : Array Value) : results fn tmps = (do let vs ← fn.results.mapM (rvRun tmps); pure (if h : vs.size = 1 then vs[0] else .tuple vs)) := by
  unfold results
  congr 2
/-- One result: it lies in a slot, or in a variable. -/
def RvOk (P : Program) (w0 : World) (n : Nat) (D : List PP) (G : List HP) (e : Env) (r : ResultVar) (v : Value) : Prop :=
  ∀ a w, Fits n e a → Holds w0 D G w → (rvRun a.tmps r).run P w = .ok v w
theorem rv_tmp {t : Nat} {v : Value} (h : get e t = some v) : RvOk P w0 n D G e (.tmp t) v := fun a w hf _ => by simp [rvRun, hf.get t v h]
theorem rv_cell {x : Nat} {t : TypeId} {b p q j : Nat} {cs s : List Value} (hx : get e x = some (.pointer (some ⟨b, q, none⟩))) (hC : ∀ w, Holds w0 D G w → Has b p cs w)
    (ht : ∀ w, (isAgg t).run P w = .ok true w) (hn : ∀ w, (sizeOf t).run P w = .ok s.length w) (hs : SubAt cs j s) (hq : p + j = q) : RvOk P w0 n D G e (.cell x t) (.agg s.toArray) := by
  intro a w hf hh
  have hl := run_loadCells_list (P := P) (w := w) ⟨b, q, none⟩ s (fun i v hi => by
    have := (hC w hh).sub hs hq i v hi
    have ha : (⟨b, q, none⟩ : Addr).add i = ⟨b, q + i, none⟩ := by unfold Addr.add; split <;> simp_all
    rw [ha]; exact this)
  simp [rvRun, hf.get x _ hx, asAddr, loadVar, ht, hn, hl]
theorem rs_0 (hr : fn.results = #[]) : ∀ a w, Fits n e a → Holds w0 D G w → (results fn a.tmps).run P w = .ok (.tuple #[]) w := fun a w _ _ => by simp [results, hr]
theorem rs_1 {r : ResultVar} {v : Value} (hr : fn.results = #[r]) (h : RvOk P w0 n D G e r v) : ∀ a w, Fits n e a → Holds w0 D G w → (results fn a.tmps).run P w = .ok v w := fun a w hf hh => by
  have h1 := h a w hf hh
  simp [results_eq, hr, h1]
theorem rs_2 {r s : ResultVar} {v u : Value} (hr : fn.results = #[r, s]) (h : RvOk P w0 n D G e r v) (k : RvOk P w0 n D G e s u) : ∀ a w, Fits n e a → Holds w0 D G w → (results fn a.tmps).run P w = .ok (.tuple #[v, u]) w := fun a w hf hh => by
  have h1 := h a w hf hh
  have h2 := k a w hf hh
  simp [results_eq, hr, h1, h2]
theorem rs_3 {r s t : ResultVar} {v u x : Value} (hr : fn.results = #[r, s, t]) (h : RvOk P w0 n D G e r v) (k : RvOk P w0 n D G e s u) (m : RvOk P w0 n D G e t x) : ∀ a w, Fits n e a → Holds w0 D G w → (results fn a.tmps).run P w = .ok (.tuple #[v, u, x]) w := fun a w hf hh => by
  have h1 := h a w hf hh
  have h2 := k a w hf hh
  have h3 := m a w hf hh
  simp [results_eq, hr, h1, h2, h3]
theorem rs_4 {r s t y : ResultVar} {v u x z : Value} (hr : fn.results = #[r, s, t, y]) (h : RvOk P w0 n D G e r v) (k : RvOk P w0 n D G e s u) (m : RvOk P w0 n D G e t x) (q : RvOk P w0 n D G e y z) : ∀ a w, Fits n e a → Holds w0 D G w → (results fn a.tmps).run P w = .ok (.tuple #[v, u, x, z]) w := fun a w hf hh => by
  have h1 := h a w hf hh
  have h2 := k a w hf hh
  have h3 := m a w hf hh
  have h4 := q a w hf hh
  simp [results_eq, hr, h1, h2, h3, h4]
/-- The end: what is handed back, and of the facts and tokens those that post tells. -/
theorem q_end {v : Value} {D' : List PP} {G' B : List HP} (hv : ∀ a w, Fits n e a → Holds w0 D G w → (results fn a.tmps).run P w = .ok v w) (hp : post v D' G')
    (ds : List Nat) (hD : allAt D ds = some D') (md : Nat) (hD0 : D.drop md = D0) (gs : List Nat) (hG : picks gs G = some (G', B)) (mg : Nat) (hB : B.drop mg = G0) : WQ w0 n (bodyPost P fn (Rt w0 D0 G0 post)) D G e .ret :=
  q_ret hv hp (fun p hp => by
    rcases List.mem_append.1 hp with h | h
    · exact allAt_mem hD p h
    · rw [← hD0] at h; exact List.mem_of_mem_drop h) gs hG mg hB
theorem q_end_n {v : Value} {D' : List PP} {G' B : List HP} (hv : ∀ a w, Fits n e a → Holds w0 D G w → (results fn a.tmps).run P w = .ok v w) (hp : post v D' G')
    (ds : List Nat) (hD : allAt D ds = some D') (md : Nat) (hD0 : D.drop md = D0) (gs : List Nat) (hG : picks gs G = some (G', B)) (mg : Nat) (hB : B.drop mg = G0) : WQ w0 n (bodyPost P fn (Rt w0 D0 G0 post)) D G e .normal :=
  q_end hv hp ds hD md hD0 gs hG mg hB
end ret
section
variable {P : Program} {w0 : World} {n : Nat} {Q : Post} {ops : Array Oper} {D : List PP} {G : List HP} {e : Env} {K : Act → World → Prop} {i d : Nat} {o : Oper} {l : List Nat}
/-- Append, as an operation. -/
theorem k_append {α : Type} {f : α → List Value} {A A2 : Option Addr} {cap cap2 s : Nat} {xs ys : List α} {x y : Operand} {t tx el : TypeId} {ti : TypeInfo} {z : Value} (di dj : Nat) (g : Nat)
    (hi : nth ops.toList i = some o) (ho : o.op = .call ⟨.builtin .append, #[x, y], #[t, tx]⟩) (hx : opv e x = some (.slice A xs.length cap)) (hy : opv e y = some (.slice A2 ys.length cap2))
    (hD : nth D di = some (Sl f A cap xs)) (hE : nth D dj = some (Sl f A2 cap2 ys)) (hG : nth G g = some (Spare A xs.length cap s)) (hf : ∀ x, (f x).length = s) (h1 : ∀ x, ∀ u ∈ f x, u.oneCell' = true)
    (ht : P.underlying t = some (.slice el)) (htx : P.underlying tx = some (.slice el)) (hti : P.info? el = some ti) (hz : ti.zero = some z) (hzs : z.cells.size = s) (hts : ti.size = s) (hby : Nat.ble ti.bytes 2048 = true)
    (hbig : xs.length + ys.length ≤ 68719476736) (hg : Goes e ops o) (hd : o.dst = some d) (hn : Nat.blt d n = true)
    (h : ∀ A' cap', WK w0 n K (Sl f A' cap' (xs ++ ys) :: D) (put G g (Spare A' (xs ++ ys).length cap' s)) ((d, .slice A' (xs ++ ys).length cap') :: e)) : WK w0 n (wpOp P ops Q i K) D G e := by
  refine k_gval hi hg hd hn fun a w hf' hh => ?_
  obtain ⟨A', cap', w', hr, hh'⟩ := run_append (ty := o.type) hD hE hf h1 ht htx hti hz hzs hts (Nat.le_of_ble_eq_true hby) hbig (hh.perm (perm_nth hG))
  exact ⟨_, _, _, w', by simp [execOp, ho, resolve, invoke, builtin, hf'.ops _ _ hx, hf'.ops _ _ hy, hr], hh'.perm (perm_put _ hG).symm, h A' cap'⟩
/-- The spare of nil. -/
theorem k_nil_spare (s : Nat) (h : WK w0 n K D (Spare none 0 0 s :: G) e) : WK w0 n K D G e :=
  fun a w hf hh => h a w hf (by
    obtain ⟨J, k, g, d, s'⟩ := hh
    exact ⟨J, k, g, d, fun _ _ => none, k, fun _ _ => .inl rfl, (by intro b o x e; simp at e), Hp.le_refl _, .inl rfl, s'⟩)
/-- All parts of a row, in their order. -/
theorem fill_from (s : Nat) : ∀ (vs : List Value) (k : Nat) (cells : Array Value), (∀ v ∈ vs, v.cells.size = s) → (k + vs.length) * s = cells.size →
    Instr.fill (fun i => some (i * s, s)) cells ((List.range' k vs.length).zip vs) = some ((cells.toList.take (k * s) ++ vs.flatMap fun v => v.cells.toList).toArray) := by
  intro vs
  induction vs with
  | nil =>
    intro k cells _ hsz
    simp at hsz
    simp [Instr.fill]
    apply Array.ext'
    simp only [hsz]
    exact (List.take_of_length_le (by simp)).symm
  | cons v vs ih =>
    intro k cells hv hsz
    have hvs : v.cells.size = s := hv v List.mem_cons_self
    simp only [List.length_cons] at hsz ⊢
    have hk : (k + (vs.length + 1)) * s = k * s + s + vs.length * s := by rw [Nat.add_mul, Nat.add_mul]; omega
    rw [List.range'_succ, List.zip_cons_cons]
    simp only [Instr.fill, hvs]
    rw [if_neg (by simp; omega)]
    have hfold : ∀ (l : List Value) (j : Nat) (cs : Array Value), k * s + j + l.length ≤ cs.size →
        (l.zipIdx j).foldl (fun cs (x : Value × Nat) => cs.setIfInBounds (k * s + x.2) x.1) cs = (splice cs.toList (k * s + j) l).toArray := by
      intro l
      induction l with
      | nil => intro j cs _; simp [splice_nil]
      | cons x l ihl =>
        intro j cs hj
        simp only [List.length_cons] at hj
        simp only [List.zipIdx_cons, List.foldl_cons]
        rw [ihl (j + 1) _ (by simp; omega)]
        congr 1
        rw [Array.toList_setIfInBounds, show k * s + (j + 1) = (k * s + j) + 1 by omega, splice_cons _ _ _ _ (by simp; omega)]
    have h1 : (Array.zipIdx v.cells).foldl (fun cs (x : Value × Nat) => cs.setIfInBounds (k * s + x.2) x.1) cells = (splice cells.toList (k * s) v.cells.toList).toArray := by
      rw [← Array.foldl_toList, Array.toList_zipIdx]
      have := hfold v.cells.toList 0 cells (by simp; omega)
      simpa using this
    have h2 : (v.cells.zipIdx.foldl (fun cs x => match x with | (c, j) => cs.setIfInBounds (k * s + j) c) cells) = (splice cells.toList (k * s) v.cells.toList).toArray := h1
    rw [h2, ih (k + 1) _ (fun u hu => hv u (List.mem_cons_of_mem _ hu)) (by rw [List.size_toArray, splice_length _ _ _ (by simp; omega)]; simp; rw [show (k + 1 + vs.length) * s = k * s + s + vs.length * s by rw [Nat.add_mul, Nat.add_mul]; omega]; omega)]
    congr 2
    rw [List.flatMap_cons, ← List.append_assoc]
    congr 1
    simp only [splice]
    have hl : (cells.toList.take (k * s)).length = k * s := by simp; omega
    rw [show (k + 1) * s = k * s + s by rw [Nat.add_mul]; omega, ← List.append_assoc, List.take_append_of_le_length (by simp; omega)]
    rw [List.take_of_length_le (by simp; omega)]
theorem fill_all {s m : Nat} {vs : List Value} {cells : Array Value} {ks : List Nat} {xs : List Value} (hm : vs.length = m) (hk : ks = List.range' 0 m) (hc : cells.size = m * s) (hv : vs.all (fun v => Nat.beq v.cells.size s) = true) (hx : vs.flatMap (fun v => v.cells.toList) = xs) :
    Instr.fill (fun i => some (i * s, s)) cells (ks.zip vs) = some xs.toArray := by
  subst hm hk hx
  have := fill_from s vs 0 cells (fun v h => Nat.eq_of_beq_eq_true (List.all_eq_true.1 hv v h)) (by rw [hc]; simp)
  simpa using this
/-- A slice made of its parts. -/
theorem k_buildSlice {α : Type} {f : α → List Value} {t el : TypeId} {m s : Nat} {ps : Array (Nat × Operand)} {z : Value} (xs : List α) (hi : nth ops.toList i = some o) (ho : o.op = .buildSlice t m ps) {vs : List Value} (hx : opvs e (ps.toList.map (·.2)) = some vs)
    (hm : xs.length = m) (ht : ∀ w, (underlying t).run P w = .ok (.slice el) w) (hs : ∀ w, (sizeOf el).run P w = .ok s w) (hz : ∀ w, (zeroValue el).run P w = .ok z w) (hbig : Nat.ble (m * s) 16777216 = true) (hpos : Nat.blt 0 (m * s) = true)
    (hfill : Instr.fill (fun i => some (i * s, s)) ((Array.range (m * s)).map (z.cells[· % z.cells.size]!)) ((ps.toList.map (·.1)).zip vs) = some (xs.flatMap f).toArray) (hg : Goes e ops o) (hd : o.dst = some d) (hn : Nat.blt d n = true)
    (h : ∀ b, WK w0 n K (Sl f (some ⟨b, 0, none⟩) m xs :: D) G ((d, .slice (some ⟨b, 0, none⟩) xs.length m) :: e)) : WK w0 n (wpOp P ops Q i K) D G e := by
  refine k_gval hi hg hd hn fun a w hf hh => ?_
  have hps : List.map (fun p => (p.1, a.eval p.2)) ps.toList = (ps.toList.map (·.1)).zip vs := by
    rw [← hf.ops.list hx]
    generalize ps.toList = l
    induction l with
    | nil => rfl
    | cons p l ih => simp [ih]
  have hbig' : m * s ≤ 16777216 := Nat.le_of_ble_eq_true hbig
  have hpos' : m * s ≠ 0 := by have : 0 < m * s := by simpa [Nat.blt_eq] using hpos
                               omega
  have h1 := hh.alloc (xs.flatMap f) el
  have h2 := h1.keep (i := 0) rfl
  refine ⟨.slice (some ⟨w.heap.size, 0, none⟩) xs.length m, _, G, w.alloc (.cells (xs.flatMap f).toArray el), ?_, (h2.learn (Sl f (some ⟨w.heap.size, 0, none⟩) m xs) fun J hJ => ?_).weakD (fun q hq => ?_), h _⟩
  · simp only [execOp, ho]
    have hrun : (Instr.buildSlice t m (ps.map fun p => (p.1, a.eval p.2))).run P w = .ok (.slice (some ⟨w.heap.size, 0, none⟩) m m) (w.alloc (.cells (xs.flatMap f).toArray el)) := by
      unfold Instr.buildSlice
      simp [ht, hs, hz, hpos', show ¬ (2 ^ 24 < m * s) by omega, newRow, newObj, Sem.run]
      rw [hps, hfill]
      rfl
    rw [hm]
    have hfun : (ps.map fun x => match x with | (i, x) => (i, a.eval x)) = ps.map fun p => (p.1, a.eval p.2) := rfl
    simp [hrun]
  · by_cases hmx : m ≤ 9223372036854775807
    · exact ⟨by omega, hmx, .inr ⟨w.heap.size, 0, rfl, hJ _ List.mem_cons_self⟩⟩
    · exfalso
      have : m ≤ m * s := Nat.le_mul_of_pos_right m (by rcases Nat.eq_zero_or_pos s with h0 | h0; subst h0; simp at hpos'; exact h0)
      omega
  · rcases List.mem_cons.1 hq with rfl | hq
    · exact List.mem_cons_self
    · exact List.mem_cons_of_mem _ (List.mem_cons_of_mem _ hq)
end
end Go.Proofs.YtpdoioeckiiegaaGreatDoor.Wl
