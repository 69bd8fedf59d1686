/- Objects of one's own; iterators over texts. -/
import Derived.Test.YtpdoioeckiiegaaGreatDoorWlV
import Derived.Lib.SlBytesConst
set_option linter.unusedSimpArgs false
set_option linter.unusedVariables false
namespace Go.Proofs.YtpdoioeckiiegaaGreatDoor.Wl
open Go.RowKit
theorem Holds.allocO {w0 : World} {D : List PP} {G : List HP} {w : World} (h : Holds w0 D G w) (x : Obj) (hx : ∀ c e f, x ≠ .cells c e f) : Holds w0 D (Ob w.heap.size x :: G) (w.alloc x) := by
  obtain ⟨J, k, g, d, s⟩ := h
  have hsz := g.below.size
  have fresh : ∀ o, k w.heap.size o = none := fun o => by
    cases e : k w.heap.size o with
    | none => rfl
    | some v => exact absurd (lt_of_hp g e) (Nat.lt_irrefl _)
  have hnew : (w.alloc x).heap[w.heap.size]? = some x := by
    show (w.heap.push x)[w.heap.size]? = _
    simp
  let h1 : Hp := fun b o => if b = w.heap.size then some (.obj x) else none
  have gd : Good w0 J (fun b o => if b = w.heap.size then some (.obj x) else k b o) (w.alloc x) := by
    refine ⟨g.below.alloc hsz _, fun b o v e => ?_, fun b o v e => ?_, fun b o y e => ?_, fun b o y e => ?_, fun b o => ?_⟩
    · rw [World.cell?_alloc_lt _ _ _ (lt_of_im g e)]; exact g.im _ _ _ e
    · by_cases hb : b = w.heap.size
      · simp [hb] at e
      · simp only [hb, if_false] at e
        have hl := lt_of_hp g e
        exact ⟨by rw [World.cell?_alloc_lt _ _ _ hl]; exact (g.cell _ _ _ e).1, by rw [World.frozen?_alloc_old _ _ _ (Nat.ne_of_lt hl)]; exact (g.cell _ _ _ e).2⟩
    · by_cases hb : b = w.heap.size
      · subst hb
        simp at e
        subst e
        exact ⟨hnew, hx⟩
      · simp only [hb, if_false] at e
        refine ⟨?_, (g.obj _ _ _ e).2⟩
        rw [Below.heap_alloc _ _ _ (lt_of_hp g e)]
        exact (g.obj _ _ _ e).1
    · by_cases hb : b = w.heap.size
      · rw [hb]; exact hsz
      · simp only [hb, if_false] at e; exact g.base _ _ _ e
    · by_cases hb : b = w.heap.size
      · subst hb
        left
        cases e : J w.heap.size o with
        | none => rfl
        | some v => exact absurd (lt_of_im g e) (Nat.lt_irrefl _)
      · simp only [hb, if_false]; exact g.dis _ _
  refine ⟨J, _, gd, d, h1, k, fun b o => ?_, fun b o y e => ?_, fun b o y e => ?_, ?_, s⟩
  · by_cases hb : b = w.heap.size
    · subst hb; right; exact fresh o
    · left; simp [h1, hb]
  · by_cases hb : b = w.heap.size
    · simpa [h1, hb] using e
    · simp [h1, hb] at e
  · by_cases hb : b = w.heap.size
    · subst hb; rw [fresh] at e; cases e
    · simp [hb, e]
  · simp [Ob, h1]
theorem Holds.ob {w0 : World} {D : List PP} {G : List HP} {w : World} (h : Holds w0 D G w) {i b : Nat} {x : Obj} (hi : nth G i = some (Ob b x)) : w.heap[b]? = some x ∧ ∀ c e f, x ≠ .cells c e f := by
  obtain ⟨J, k, g, d, s⟩ := h
  obtain ⟨h1, h2, dd, a, b2, p, s2⟩ := s.perm (perm_nth hi)
  exact g.obj _ _ _ (a _ _ _ (p 0))
theorem Holds.setO {w0 : World} {D : List PP} {G : List HP} {w : World} (h : Holds w0 D G w) {i b : Nat} {x : Obj} (hi : nth G i = some (Ob b x)) (y : Obj) (hy : ∀ c e f, y ≠ .cells c e f) :
    Holds w0 D (put G i (Ob b y)) { w with heap := w.heap.setIfInBounds b y } := by
  obtain ⟨J, k, g, d, s⟩ := h
  obtain ⟨h1, h2, dd, a, b2, p, s2⟩ := s.perm (perm_nth hi)
  have hk1 : h1 b 0 = some (.obj x) := p 0
  have hk : k b 0 = some (.obj x) := a _ _ _ hk1
  obtain ⟨ho, hne⟩ := g.obj _ _ _ hk
  have hlt : b < w.heap.size := (Array.getElem?_eq_some_iff.1 ho).1
  have hk2 : ∀ o, h2 b o = none := fun o => by
    rcases dd b o with q | q
    · rw [p o] at q; cases q
    · exact q
  -- no cell lies in that block
  have nocell : ∀ o v, k b o = some (.cell v) → False := fun o v e => by
    have := (g.cell _ _ _ e).1
    simp only [World.cell?, ho] at this
    cases x <;> simp_all
  have noim : ∀ o v, J b o = some v → False := fun o v e => by
    have := g.im _ _ _ e
    simp only [World.cell?, ho] at this
    cases x <;> simp_all
  have hoth : ∀ b', b' ≠ b → (w.heap.setIfInBounds b y)[b']? = w.heap[b']? := fun b' hb => by rw [Array.getElem?_setIfInBounds_ne (Ne.symm hb)]
  have gd : Good w0 J (fun b' o' => if b' = b then some (.obj y) else k b' o') { w with heap := w.heap.setIfInBounds b y } := by
    refine ⟨⟨g.below.os, g.below.tape, g.below.output, by simpa using g.below.size, fun m hm => ?_⟩, fun b' o' v e => ?_, fun b' o' v e => ?_, fun b' o' z e => ?_, fun b' o' z e => ?_, fun b' o' => ?_⟩
    · have hb := g.base _ _ _ hk
      show (w.heap.setIfInBounds b y)[m]? = _
      rw [hoth m (by omega)]
      exact g.below.block m hm
    · have hb : b' ≠ b := fun hb => by subst hb; exact noim _ _ e
      have := g.im _ _ _ e
      simp only [World.cell?] at this ⊢
      rw [hoth b' hb]; exact this
    · by_cases hb : b' = b
      · simp [hb] at e
      · simp only [hb, if_false] at e
        have := g.cell _ _ _ e
        simp only [World.cell?, World.frozen?] at this ⊢
        rw [hoth b' hb]; exact this
    · by_cases hb : b' = b
      · subst hb
        simp at e
        subst e
        exact ⟨by show (w.heap.setIfInBounds b' y)[b']? = _; simp [hlt], hy⟩
      · simp only [hb, if_false] at e
        have := g.obj _ _ _ e
        exact ⟨by show (w.heap.setIfInBounds b y)[b']? = _; rw [hoth b' hb]; exact this.1, this.2⟩
    · by_cases hb : b' = b
      · rw [hb]; exact g.base _ _ _ hk
      · simp only [hb, if_false] at e; exact g.base _ _ _ e
    · by_cases hb : b' = b
      · subst hb
        left
        cases e : J b' o' with
        | none => rfl
        | some v => exact absurd e (fun e => noim _ _ e)
      · simp only [hb, if_false]; exact g.dis _ _
  refine ⟨J, _, gd, d, Sat.perm (perm_put _ hi).symm ⟨fun b' o' => if b' = b then some (.obj y) else h1 b' o', h2, fun b' o' => ?_, fun b' o' z e => ?_, fun b' o' z e => ?_, fun o => by simp, s2⟩⟩
  · by_cases hb : b' = b
    · subst hb; right; exact hk2 _
    · simp only [hb, if_false]; exact dd _ _
  · by_cases hb : b' = b
    · simpa [hb] using e
    · simp only [hb, if_false] at e ⊢; exact a _ _ _ e
  · by_cases hb : b' = b
    · subst hb; rw [hk2] at e; cases e
    · simp only [hb, if_false]; exact b2 _ _ _ e
/-- The rune at a place of a text, and how many bytes it takes. -/
def ru (l : List UInt8) (p : Int) : Int := ((Utf8.decode ⟨l.toArray⟩ p.toNat).1 : Nat)
def rwd (l : List UInt8) (p : Int) : Int := ((Utf8.decode ⟨l.toArray⟩ p.toNat).2 : Nat)
/-- An iterator over a text. -/
def It (b : Nat) (l : List UInt8) (p : Int) : HP := Ob b (.stringIter ⟨l.toArray⟩ p.toNat)
section
variable {P : Program} {w0 : World} {n : Nat} {Q : Post} {ops : Array Oper} {D : List PP} {G : List HP} {e : Env} {K : Act → World → Prop} {i d : Nat} {o : Oper}
theorem k_range {t : TypeId} {x : Operand} {l : List UInt8} (hi : nth ops.toList i = some o) (ho : o.op = .range t x) (hx : opv e x = some (vs l)) (ht : ∀ w, (underlying t).run P w = .ok .string w) (hg : Goes e ops o) (hd : o.dst = some d) (hn : Nat.blt d n = true)
    (h : ∀ b, WK w0 n K D (It b l 0 :: G) ((d, .pointer (some ⟨b, 0, none⟩)) :: e)) : WK w0 n (wpOp P ops Q i K) D G e :=
  k_gval hi hg hd hn fun a w hf hh => ⟨_, D, _, _, by simp [execOp, ho, hf.ops _ _ hx, vs, Instr.range, ht, newObj, Sem.run], hh.allocO (.stringIter ⟨l.toArray⟩ 0) (by intro c e f h; cases h), h _⟩
theorem k_next {x : Operand} {b : Nat} {l : List UInt8} {p : Int} (g : Nat) (hi : nth ops.toList i = some o) (ho : o.op = .next x true) (hx : opv e x = some (.pointer (some ⟨b, 0, none⟩))) (hG : nth G g = some (It b l p)) (hg : Goes e ops o) (hd : o.dst = some d) (hn : Nat.blt d n = true) (hp : decide (0 ≤ p ∧ p < l.length) = true)
    (h : WK w0 n K D (put G g (It b l (p + rwd l p))) ((d, .tuple #[vb true, vi p, vr (ru l p)]) :: e)) : WK w0 n (wpOp P ops Q i K) D G e := by
  refine k_gval hi hg hd hn fun a w hf hh => ?_
  have hp := of_decide_eq_true hp
  obtain ⟨ho', _⟩ := hh.ob (x := .stringIter ⟨l.toArray⟩ p.toNat) hG
  have hlt : p.toNat < (ByteArray.mk l.toArray).size := by rw [bsz]; omega
  have hh' := hh.setO (x := .stringIter ⟨l.toArray⟩ p.toNat) hG (.stringIter ⟨l.toArray⟩ (p + rwd l p).toNat) (by intro c e f h; cases h)
  have e1 : (p + rwd l p).toNat = p.toNat + (Utf8.decode ⟨l.toArray⟩ p.toNat).2 := by unfold rwd; omega
  have e2 : max p 0 = p := by omega
  refine ⟨_, D, _, _, ?_, hh', h⟩
  simp [execOp, ho, hf.ops _ _ hx, Instr.next, getObj, setObj, Sem.run, ho', hlt, e1, e2, goInt, vi, vb, vr, ru]
theorem k_over {x : Operand} {b : Nat} {l : List UInt8} {p : Int} (g : Nat) (hi : nth ops.toList i = some o) (ho : o.op = .next x true) (hx : opv e x = some (.pointer (some ⟨b, 0, none⟩))) (hG : nth G g = some (It b l p)) (hg : Goes e ops o) (hd : o.dst = some d) (hn : Nat.blt d n = true) (hp : decide (0 ≤ p ∧ p < l.length) = false) (hp0 : 0 ≤ p)
    (h : WK w0 n K D G ((d, .tuple #[vb false]) :: e)) : WK w0 n (wpOp P ops Q i K) D G e := by
  refine k_gval hi hg hd hn fun a w hf hh => ?_
  have hp := of_decide_eq_false hp
  obtain ⟨ho', _⟩ := hh.ob (x := .stringIter ⟨l.toArray⟩ p.toNat) hG
  have hlt : ¬ (p.toNat < (ByteArray.mk l.toArray).size) := by rw [bsz]; omega
  refine ⟨_, D, _, _, ?_, hh, h⟩
  simp [execOp, ho, hf.ops _ _ hx, Instr.next, getObj, setObj, Sem.run, ho', hlt, vb]
/-- The bytes of a text that the program holds: a row that is laid, and its mark. -/
theorem o_lit {t el : TypeId} {m j d2 : Nat} {o2 : Oper} {ps : Array (Nat × Operand)} {z : Value} {l : List Nat} (xs : List UInt8) (hi : nth ops.toList i = some o) (ho : o.op = .buildSlice t m ps) {vs : List Value} (hx : opvs e (ps.toList.map (·.2)) = some vs)
    (hm : xs.length = m) (ht : P.underlying t = some (.slice el)) (he : P.underlying el = some (.int .u8)) (hs : ∀ w, (sizeOf el).run P w = .ok 1 w) (hz : ∀ w, (zeroValue el).run P w = .ok z w) (hbig : Nat.ble m 16777216 = true) (hpos : Nat.blt 0 m = true)
    (hfill : Instr.fill (fun i => some (i * 1, 1)) ((Array.range (m * 1)).map (z.cells[· % z.cells.size]!)) ((ps.toList.map (·.1)).zip vs) = some (xs.flatMap E8).toArray) (hg : Goes e ops o) (hd : o.dst = some d) (hn : Nat.blt d n = true)
    (hj : nth ops.toList j = some o2) (ho2 : o2.op = .convert t t (.tmp d)) (hg2 : ∀ b, Goes ((d, .slice (some ⟨b, 0, none⟩) m m) :: e) ops o2) (hd2 : o2.dst = some d2) (hn2 : Nat.blt d2 n = true)
    (h : ∀ b, WO P w0 n Q ops (Sl E8 (some ⟨b, 0, none⟩) m xs :: D) G ((d2, .slice (some ⟨b, 0, none⟩) xs.length m) :: (d, .slice (some ⟨b, 0, none⟩) xs.length m) :: e) l) : WO P w0 n Q ops D G e (i :: j :: l) := by
  intro a w hf hh
  rw [wpOps_cons]
  have hps : List.map (fun p => (p.1, a.eval p.2)) ps.toList = (ps.toList.map (·.1)).zip vs := by
    rw [← hf.ops.list hx]
    generalize ps.toList = l
    induction l with
    | nil => rfl
    | cons p l ih => simp [ih]
  have hbig' : m ≤ 16777216 := Nat.le_of_ble_eq_true hbig
  have hpos' : m ≠ 0 := by have : 0 < m := by simpa [Nat.blt_eq] using hpos
                           omega
  have hrun : (Instr.buildSlice t m (ps.map fun p => (p.1, a.eval p.2))).run P w = .ok (.slice (some ⟨w.heap.size, 0, none⟩) m m) (w.alloc (.cells (xs.flatMap E8).toArray el)) := by
    unfold Instr.buildSlice
    rw [Nat.mul_one] at hfill
    simp [run_underlying ht, hs, hz, hpos', show ¬ (2 ^ 24 < m) by omega, newRow, newObj, Sem.run]
    rw [hps]
    simp only [Nat.mul_one] at hfill
    rw [hfill]
    rfl
  have hfun : (ps.map fun x => match x with | (i, x) => (i, a.eval x)) = ps.map fun p => (p.1, a.eval p.2) := rfl
  have hr1 : (execOp a.eval o).run P w = .ok (.value (.slice (some ⟨w.heap.size, 0, none⟩) m m)) (w.alloc (.cells (xs.flatMap E8).toArray el)) := by
    simp only [execOp, ho]
    simp [hrun]
  simp only [wpOp, opAt hi, hg.wanted hf, if_true]
  refine .inl ?_
  simp only [Oper.wp, hr1, Oper.upon, hd]
  have hf1 := hf.put hn (.slice (some ⟨w.heap.size, 0, none⟩) m m)
  rw [wpOps_cons]
  have hr2 := Go.Lib.run_convert_bytes_const (P := P) w t el (xs.flatMap E8).toArray m m ht he
  have hr3 : (execOp (a.put (some d) (.slice (some ⟨w.heap.size, 0, none⟩) m m)).eval o2).run P (w.alloc (.cells (xs.flatMap E8).toArray el)) = .ok (.value (.slice (some ⟨w.heap.size, 0, none⟩) m m)) (w.alloc (.cells (xs.flatMap E8).toArray el ((xs.flatMap E8).toArray.size, (xs.flatMap E8).toArray.size + 1))) := by
    have hv : (a.put (some d) (.slice (some ⟨w.heap.size, 0, none⟩) m m)).eval (.tmp d) = .slice (some ⟨w.heap.size, 0, none⟩) m m := hf1.ops _ _ (by simp [opv, Wl.get])
    simp only [execOp, ho2, hv]
    simp [hr2]
  simp only [wpOp, opAt hj, (hg2 _).wanted hf1, if_true]
  refine .inl ?_
  simp only [Oper.wp, hr3, Oper.upon, hd2]
  have h1 := hh.allocR (xs.flatMap E8) el ((xs.flatMap E8).toArray.size, (xs.flatMap E8).toArray.size + 1) (by simp)
  have h2 := h1.keep (i := 0) rfl
  have h3 := (h2.learn (Sl E8 (some ⟨w.heap.size, 0, none⟩) m xs) fun J hJ => ⟨by omega, by omega, .inr ⟨w.heap.size, 0, rfl, hJ _ List.mem_cons_self⟩⟩).weakD (D' := Sl E8 (some ⟨w.heap.size, 0, none⟩) m xs :: D) (fun q hq => by
    rcases List.mem_cons.1 hq with rfl | hq
    · exact List.mem_cons_self
    · exact List.mem_cons_of_mem _ (List.mem_cons_of_mem _ hq))
  have := h w.heap.size _ _ (by rw [hm]; exact hf1.put hn2 _) h3
  exact this
end
end Go.Proofs.YtpdoioeckiiegaaGreatDoor.Wl
