/- More operations: indexes of arrays that are values, slices that are made and copied into, bytes of texts, slices of arrays. -/
import Derived.Test.YtpdoioeckiiegaaGreatDoorWlQ
import Derived.Laws.MakeOwn
import Derived.Laws.IdiomCopy
import Derived.Laws.IdiomStrings
set_option linter.unusedSimpArgs false
set_option linter.unusedVariables false
namespace Go.Proofs.YtpdoioeckiiegaaGreatDoor.Wl
open Go.RowKit
section
variable {P : Program} {t : TypeId}
theorem neg_i (x : Int) : ∀ w, (Op.unary .neg (vi x)).run P w = .ok (vi (wrap64 (-x))) w := fun w => by
  simp only [Op.unary, Op.intArith, vi, wrap64]
  rw [Int.zero_sub, IntKind.wrap_i64]; rfl
theorem add_8 (x y : UInt8) : Bin P .add t (v8 x) (v8 y) (v8 (x + y)) := fun w => by
  have hx := x.toNat_lt
  have hy := y.toNat_lt
  have : IntKind.u8.wrap ((x.toNat : Int) + y.toNat) = ((x + y).toNat : Int) := by
    simp [IntKind.wrap, IntKind.bits, IntKind.signed, UInt8.toNat_add]
  simp [binOp, v8, Op.intArith, this]
end
section
variable {P : Program} {e : Env} {o : Oper} {C : World → Prop}
/-- An element of an array that is a value. -/
theorem ev_index_arr {α : Type} {f : α → List Value} {g : α → Value} {n s : Nat} {a : Arr α n} {t el : TypeId} {x y : Operand} {k : Int} (df : α) (ho : o.op = .index t x y) (hx : opv e x = some (.agg (a.l.flatMap f).toArray)) {ik : IntKind} (hy : opv e y = some (.int ik k))
    (ht : ∀ w, (underlying t).run P w = .ok (.array n el) w) (hs : ∀ w, (sizeOf el).run P w = .ok s w) (ha : ∀ w, (isAgg el).run P w = .ok false w) (hf : ∀ x, (f x).length = s) (hg : ∀ x, f x = [g x]) (hk : 0 ≤ k ∧ k < n) : Evals P e o (g (at' df a.l k)) C := by
  intro ρ hρ w _
  have h1 := part_one (P := P) ha (by rw [← hg]; exact sub_arr hf df a hk rfl) w
  simp [execOp, ho, hρ _ _ hx, hρ _ _ hy, Instr.index, asIntOf, ht, hs, hk, h1]
/-- The whole of an array that lies in a variable, as a slice. -/
theorem ev_slice_arr {t el : TypeId} {x : Operand} {b p n s : Nat} (ho : o.op = .slice t x none none none) (hx : opv e x = some (.pointer (some ⟨b, p, none⟩))) (ht : ∀ w, (underlying t).run P w = .ok (.array n el) w) (hs : ∀ w, (sizeOf el).run P w = .ok s w) :
    Evals P e o (.slice (some ⟨b, p, none⟩) n n) C := by
  intro ρ hρ w _
  have ha : (⟨b, p, none⟩ : Addr).add 0 = ⟨b, p, none⟩ := by unfold Addr.add; split <;> simp_all
  simp [execOp, ho, hρ _ _ hx, Instr.sliceAt, Instr.sureAddr, ht, hs, Instr.sliceBounds, ha]
/-- A slice that is as long as an array, as the array's address. -/
theorem ev_arrayAt {t el : TypeId} {x : Operand} {A : Option Addr} {m n cap : Nat} (ho : o.op = .sliceToArrayPointer t x) (hx : opv e x = some (.slice A m cap)) (ht : ∀ w, (underlying t).run P w = .ok (.array n el) w) (hm : n ≤ m) : Evals P e o (.pointer A) C := by
  intro ρ hρ w _
  simp [execOp, ho, hρ _ _ hx, Instr.arrayAt, ht, Nat.not_lt.2 hm]
theorem ev_eq_sl_nil {t t2 el : TypeId} {x y : Operand} {A : Option Addr} {m cap k c : Nat} (ho : o.op = .binOp .eql t x y t2) (hx : opv e x = some (.slice A m cap)) (hy : opv e y = some (.slice none k c)) (ht : P.underlying t = some (.slice el)) : Evals P e o (vb A.isNone) C := by
  intro ρ hρ w _
  have h' : ∀ d, (Op.equalIn (d + 1) t (.slice A m cap) (.slice none k c)).run P w = .ok A.isNone w := by
    intro d; cases A <;> simp [Op.equalIn, run_underlying ht]
  have h : (Op.equal t (.slice A m cap) (.slice none k c)).run P w = .ok A.isNone w := h' _
  have hq : (eqGuard .eql t x y (.slice A m cap) (.slice none k c)).run P w = .ok () w := by
    simp [eqGuard]
  simp [execOp, ho, hρ _ _ hx, hρ _ _ hy, hq, binOp, h, vb]
end
/-- What a copy leaves. -/
def cpy {α : Type} (xs ys : List α) : List α := ys.take xs.length ++ xs.drop ys.length
theorem cpy_len {α : Type} (xs ys : List α) : (cpy xs ys).length = xs.length := by simp [cpy]; omega
def Arr.cpy {α : Type} {n : Nat} (a : Arr α n) (ys : List α) : Arr α n := ⟨Wl.cpy a.l ys, by rw [cpy_len, a.len]⟩
section
variable {P : Program} {w0 : World} {n : Nat} {Q : Post} {ops : Array Oper} {D : List PP} {G : List HP} {e : Env} {K : Act → World → Prop} {i d : Nat} {o : Oper}
/-- A token is given up, if nobody writes its cells any more. -/
theorem k_keep (g : Nat) {b p : Nat} {cs : List Value} (hG : nth G g = some (At b p cs)) (h : WK w0 n K (Ro b p cs :: D) (del G g) e) : WK w0 n K D G e :=
  fun a w hf hh => h a w hf (hh.keep hG)
/-- What lies at a known place, as a slice. -/
theorem k_ro_sl {α : Type} {f : α → List Value} {b p q j cap : Nat} {cs : List Value} (xs : List α) (di : Nat) (hD : nth D di = some (Ro b p cs)) (hs : SubAt cs j (xs.flatMap f)) (hq : p + j = q) (hc : xs.length ≤ cap) (hb : cap ≤ 9223372036854775807)
    (h : WK w0 n K (Sl f (some ⟨b, q, none⟩) cap xs :: D) G e) : WK w0 n K D G e :=
  fun a w hf hh => h a w hf (hh.learn _ fun J hJ => by
    have h1 := hJ _ (nth_mem hD)
    subst hq
    exact ⟨hc, hb, .inr ⟨b, p + j, rfl, fun i v hv => by rw [Nat.add_assoc]; exact h1 _ _ (hs i v hv)⟩⟩)
/-- The cells of a slice that is read, at their place. -/
theorem k_sl_ro {α : Type} {f : α → List Value} {A : Option Addr} {cap : Nat} {xs : List α} (di : Nat) (hD : nth D di = some (Sl f A cap xs)) (hne : xs.flatMap f ≠ [])
    (h : ∀ b p, A = some ⟨b, p, none⟩ → WK w0 n K (Ro b p (xs.flatMap f) :: D) G e) : WK w0 n K D G e := by
  intro a w hf hh
  obtain ⟨J, hp, g, dd, s'⟩ := id hh
  obtain ⟨_, _, h3⟩ := dd _ (nth_mem hD)
  obtain ⟨b, p, hA, hcs⟩ := h3.resolve_left hne
  refine h b p hA a w hf (hh.learn (Ro b p (xs.flatMap f)) fun J' hJ => ?_)
  obtain ⟨_, _, h3'⟩ := hJ _ (nth_mem hD)
  obtain ⟨b', p', hA', hcs'⟩ := h3'.resolve_left hne
  rw [hA] at hA'
  cases hA'
  exact hcs'
end

/-! New rows: those that are made, and the bytes of a text. -/
theorem Good.allocR {w0 : World} {J : Im} {h : Hp} {w : World} (g : Good w0 J h w) (cs : Array Value) (t : TypeId) (fr : Nat × Nat) (hfr : cs.size ≤ fr.1) :
    Good w0 J (fun b o => if b = w.heap.size then (cs[o]?).map .cell else h b o) (w.alloc (.cells cs t fr)) := by
  have hsz := g.below.size
  have hnew : (w.alloc (.cells cs t fr)).heap[w.heap.size]? = some (.cells cs t fr) := by
    show (w.heap.push (.cells cs t fr))[w.heap.size]? = _
    simp
  refine ⟨g.below.alloc hsz _, fun b o v e => ?_, fun b o v e => ?_, fun b o x e => ?_, fun b o x e => ?_, fun b o => ?_⟩
  · rw [World.cell?_alloc_lt _ _ _ (lt_of_im g e)]; exact g.im _ _ _ e
  · by_cases hb : b = w.heap.size
    · subst hb
      simp only [if_true] at e
      cases hc : cs[o]? with
      | none => simp [hc] at e
      | some u =>
        simp [hc] at e
        subst e
        have hlt : o < cs.size := (Array.getElem?_eq_some_iff.1 hc).1
        refine ⟨by simp only [World.cell?, hnew]; exact hc, ?_⟩
        simp only [World.frozen?, hnew]
        have : ¬ (fr.1 ≤ o) := by omega
        simp [this]
    · simp only [hb, if_false] at e
      have hl := lt_of_hp g e
      exact ⟨by rw [World.cell?_alloc_lt _ _ _ hl]; exact (g.cell _ _ _ e).1, by rw [World.frozen?_alloc_old _ _ _ (Nat.ne_of_lt hl)]; exact (g.cell _ _ _ e).2⟩
  · by_cases hb : b = w.heap.size
    · subst hb
      simp only [if_true] at e
      cases hc : cs[o]? <;> simp [hc] at e
    · simp only [hb, if_false] at e
      refine ⟨?_, (g.obj _ _ _ e).2⟩
      rw [Below.heap_alloc _ _ _ (lt_of_hp g e)]
      exact (g.obj _ _ _ e).1
  · by_cases hb : b = w.heap.size
    · subst hb; exact hsz
    · simp only [hb, if_false] at e; exact g.base _ _ _ e
  · by_cases hb : b = w.heap.size
    · subst hb
      left
      cases e : J w.heap.size o with
      | none => rfl
      | some v => exact absurd (lt_of_im g e) (Nat.lt_irrefl _)
    · simp only [hb, if_false]; exact g.dis _ _
theorem Holds.allocR {w0 : World} {D : List PP} {G : List HP} {w : World} (h : Holds w0 D G w) (cs : List Value) (t : TypeId) (fr : Nat × Nat) (hfr : cs.length ≤ fr.1) :
    Holds w0 D (At w.heap.size 0 cs :: G) (w.alloc (.cells cs.toArray t fr)) := by
  obtain ⟨J, k, g, d, s⟩ := h
  have fresh : ∀ o, k w.heap.size o = none := fun o => by
    cases e : k w.heap.size o with
    | none => rfl
    | some v => exact absurd (lt_of_hp g e) (Nat.lt_irrefl _)
  refine ⟨J, _, g.allocR cs.toArray t fr (by simpa using hfr), d, fun b o => if b = w.heap.size then (cs.toArray[o]?).map .cell else none, k, fun b o => ?_, fun b o x e => ?_, fun b o x e => ?_, fun j v e => ?_, s⟩
  · by_cases hb : b = w.heap.size
    · subst hb; right; exact fresh o
    · left; simp [hb]
  · by_cases hb : b = w.heap.size
    · subst hb; simpa using e
    · simp [hb] at e
  · by_cases hb : b = w.heap.size
    · subst hb; rw [fresh] at e; cases e
    · simp [hb, e]
  · simp [e]
section
variable {P : Program} {w0 : World} {n : Nat} {Q : Post} {ops : Array Oper} {D : List PP} {G : List HP} {e : Env} {K : Act → World → Prop} {i d : Nat} {o : Oper}
theorem made_list (v : Value) (m : Nat) : (madeCells #[v] m).toList = List.replicate m v := by
  apply List.ext_getElem
  · simp [madeCells]
  · intro j h1 h2
    simp [madeCells]
    have : j % 1 = 0 := Nat.mod_one j
    simp [Nat.mod_one]
/-- A slice that is made, all zero: one's own. -/
theorem k_make {α : Type} {f : α → List Value} {t el : TypeId} {x y : Operand} {ti : TypeInfo} {z : Value} {m : Int} (zv : α) (hi : nth ops.toList i = some o) (ho : o.op = .makeSlice t x y) (hx : opv e x = some (vi m)) (hy : opv e y = some (vi m))
    (ht : P.underlying t = some (.slice el)) (hti : P.info? el = some ti) (hz : ti.zero = some z) (hzc : z.cells = #[z]) (hfz : f zv = [z]) (hts : ti.size = 1) (hby : Nat.ble ti.bytes 2048 = true) (hm : 0 ≤ m ∧ m ≤ 68719476736) (hg : Goes e ops o) (hd : o.dst = some d) (hn : Nat.blt d n = true)
    (h : ∀ b, WK w0 n K D (At b 0 ((List.replicate m.toNat zv).flatMap f) :: G) ((d, .slice (some ⟨b, 0, none⟩) m.toNat m.toNat) :: e)) : WK w0 n (wpOp P ops Q i K) D G e := by
  refine k_gval hi hg hd hn fun a w hf hh => ?_
  have hby' : ti.bytes ≤ 2048 := Nat.le_of_ble_eq_true hby
  have hr := run_make (P := P) w t el ti z ht hti hz .i64 .i64 m m hm.1 (Int.le_refl _) (by
    have h1 : (ti.bytes : Int) * m ≤ 2048 * m := Int.mul_le_mul_of_nonneg_right (by omega) hm.1
    omega) (by omega)
  have hcells : madeCells z.cells (m.toNat * ti.size) = ((List.replicate m.toNat zv).flatMap f).toArray := by
    rw [hts, Nat.mul_one, hzc]
    apply Array.ext'
    rw [made_list]
    have : ∀ k, List.replicate k z = (List.replicate k zv).flatMap f := by
      intro k
      induction k with
      | zero => rfl
      | succ k ih => rw [List.replicate_succ, List.replicate_succ, List.flatMap_cons, hfz, ih]; rfl
    rw [this]
  rw [hcells] at hr
  refine ⟨_, D, _, _, by simp [execOp, ho, hf.ops _ _ hx, hf.ops _ _ hy, vi] ; rw [hr]; exact rfl, hh.alloc _ el, ?_⟩
  exact h w.heap.size
/-- The bytes of a text, as a slice of its own. -/
theorem k_bytes {s t el : TypeId} {x : Operand} {l : List UInt8} (hi : nth ops.toList i = some o) (ho : o.op = .convert s t x) (hx : opv e x = some (vs l)) (hs : P.underlying s = some .string) (ht : P.underlying t = some (.slice el)) (he : P.underlying el = some (.int .u8)) (hm : l.length ≤ 68719476736)
    (hg : Goes e ops o) (hd : o.dst = some d) (hn : Nat.blt d n = true)
    (h : ∀ A c, WK w0 n K (Sl E8 A c l :: D) G ((d, .slice A l.length c) :: e)) : WK w0 n (wpOp P ops Q i K) D G e := by
  refine k_gval hi hg hd hn fun a w hf hh => ?_
  have hr := run_bytes_of_string (P := P) w s t el ⟨l.toArray⟩ hs ht he
  have hsz : (ByteArray.mk l.toArray).size = l.length := bsz l
  have hge := grownCap_ge w l.length 0 el
  have hmax := grownCap_le_maxLen w l.length 0 el (by unfold maxLen; omega)
  rw [hsz] at hr
  generalize grownCap w l.length 0 el = c at *
  have hrow : bytesRow ⟨l.toArray⟩ c = (l.flatMap E8 ++ List.replicate (c - l.length) (Value.int .u8 0)).toArray := by
    unfold bytesRow
    rw [hsz]
    apply Array.ext'
    have : ∀ l : List UInt8, l.map (fun b => Value.int .u8 b.toNat) = l.flatMap E8 := by
      intro l
      induction l with
      | nil => rfl
      | cons x l ih => rw [List.map_cons, List.flatMap_cons, ih]; rfl
    simp [this]
  have hh1 := ((hh.drew (w.drawn + 1)).allocR (l.flatMap E8 ++ List.replicate (c - l.length) (Value.int .u8 0)) el ((bytesRow ⟨l.toArray⟩ c).size, (bytesRow ⟨l.toArray⟩ c).size + 1) (by rw [hrow]; simp))
  rw [← hrow] at hh1
  have hh2 := hh1.keep (i := 0) rfl
  have hh3 := hh2.learn (Sl E8 (some ⟨w.heap.size, 0, none⟩) c l) fun J hJ => by
    have h1 := hJ _ (List.mem_cons_self)
    refine ⟨hge, by unfold maxLen at hmax; omega, .inr ⟨_, 0, rfl, fun j v hv => ?_⟩⟩
    exact h1 j v (by rw [List.getElem?_append_left (List.getElem?_eq_some_iff.1 hv).1]; exact hv)
  refine ⟨_, _, _, _, by simp [execOp, ho, hf.ops _ _ hx, vs]; rw [hr]; exact rfl, ?_, h _ c⟩
  exact hh3.weakD (fun p hp => by
    rcases List.mem_cons.1 hp with rfl | hp
    · exact List.mem_cons_self
    · exact List.mem_cons_of_mem _ (List.mem_cons_of_mem _ hp))
/-- Cells are written at a place of a token. -/
theorem stores_at {g b p j : Nat} : ∀ (vs : List Value) (k : Nat) (cs : List Value) (G : List HP) (w : World), nth G g = some (At b p cs) → j + k + vs.length ≤ cs.length → vs.all sc = true → Holds w0 D G w →
      ∃ w', (storeCells ⟨b, p + j, none⟩ vs k).run P w = .ok () w' ∧ Holds w0 D (put G g (At b p (splice cs (j + k) vs))) w' := by
  intro vs
  induction vs with
  | nil => intro k cs G w hi _ _ h; exact ⟨w, rfl, by rw [splice_nil, put_same hi]; exact h⟩
  | cons v vs ih =>
    intro k cs G w hi hk hs h
    simp only [List.length_cons] at hk
    simp only [List.all_cons, Bool.and_eq_true] at hs
    have ha : (⟨b, p + j, none⟩ : Addr).add k = ⟨b, p + (j + k), none⟩ := by
      unfold Addr.add
      split
      · rename_i h0; simp [h0]
      · simp [Nat.add_assoc]
    obtain ⟨hc, hf, _⟩ := h.at_ hi
    have hlt : j + k < cs.length := by omega
    have h1 := hc _ _ (List.getElem?_eq_getElem hlt)
    have h2 := h.set1 hi hlt v
    obtain ⟨w', hr, hh⟩ := ih (k + 1) (cs.set (j + k) v) _ _ (nth_put _ hi) (by simp; omega) hs.2 h2
    refine ⟨w', ?_, ?_⟩
    · simp [storeCells, ha, run_store1 (P := P) h1 (hf _ hlt) hs.1, hr]
    · rw [put_put, show j + (k + 1) = (j + k) + 1 by omega, splice_cons _ _ _ _ (by simp; omega)] at hh
      exact hh
theorem splice_part {cs s t u cs' : List Value} {j : Nat} (hs : SubAt cs j s) (ht : s = t ++ u) {t' : List Value} (hl : t'.length = t.length) (h : Spl cs j (t' ++ u) cs') : splice cs j t' = cs' := by
  rw [← h.eq]
  have hfit := h.fit
  subst ht
  apply List.ext_getElem?
  intro i
  simp only [splice]
  have hu : ∀ i v, u[i]? = some v → cs[j + t.length + i]? = some v := fun i v hv => by
    have := hs (t.length + i) v (by rw [List.getElem?_append_right (by omega), show t.length + i - t.length = i by omega]; exact hv)
    rwa [← Nat.add_assoc] at this
  rw [List.length_append] at hfit
  simp only [List.append_assoc, List.length_append]
  by_cases h1 : i < j
  · rw [List.getElem?_append_left (by rw [List.length_take]; omega), List.getElem?_append_left (by rw [List.length_take]; omega)]
  · have ht : (cs.take j).length = j := by rw [List.length_take]; omega
    have gl : ∀ X : List Value, (cs.take j ++ X)[i]? = X[i - j]? := fun X => by rw [List.getElem?_append_right (by omega), ht]
    rw [gl, gl]
    by_cases h2 : i - j < t'.length
    · rw [List.getElem?_append_left h2, List.getElem?_append_left h2]
    · have gr : ∀ X : List Value, (t' ++ X)[i - j]? = X[i - j - t'.length]? := fun X => List.getElem?_append_right (by omega)
      rw [gr, gr]
      by_cases h3 : i - j - t'.length < u.length
      · have gu : ∀ X : List Value, (u ++ X)[i - j - t'.length]? = u[i - j - t'.length]? := fun X => List.getElem?_append_left h3
        rw [gu, List.getElem?_drop]
        have := hu (i - j - t'.length) _ (List.getElem?_eq_getElem h3)
        rw [List.getElem?_eq_getElem h3, show j + t'.length + (i - j - t'.length) = j + t.length + (i - j - t'.length) by omega]
        exact this
      · have gu : ∀ X : List Value, (u ++ X)[i - j - t'.length]? = X[i - j - t'.length - u.length]? := fun X => List.getElem?_append_right (by omega)
        rw [gu, List.getElem?_drop, List.getElem?_drop]
        congr 1
        omega
/-- A copy into what is one's own. -/
theorem k_copy {α : Type} {f : α → List Value} {t tx el : TypeId} {x y : Operand} {b p q j m cap cap2 : Nat} {A2 : Option Addr} {cs cs' : List Value} {xs ys : List α} {ti : TypeInfo} (hi : nth ops.toList i = some o) (ho : o.op = .call ⟨.builtin .copy, #[x, y], #[t, tx]⟩)
    (hx : opv e x = some (.slice (some ⟨b, q, none⟩) m cap)) (hy : opv e y = some (.slice A2 ys.length cap2)) (ht : P.underlying t = some (.slice el)) (hti : P.info? el = some ti) (hts : ti.size = 1) (hf : ∀ x, (f x).length = 1) (h1 : ∀ x, ∀ u ∈ f x, u.oneCell' = true)
    (g : Nat) (hG : nth G g = some (At b p cs)) (di : Nat) (hD : nth D di = some (Sl f A2 cap2 ys)) (hm : xs.length = m) (hsub : SubAt cs j (xs.flatMap f)) (hs : Spl cs j ((cpy xs ys).flatMap f) cs') (hq : p + j = q) (hg : Goes e ops o) (hd : o.dst = some d) (hn : Nat.blt d n = true)
    (h : WK w0 n K D (put G g (At b p cs')) ((d, vi (min ys.length m : Nat)) :: e)) : WK w0 n (wpOp P ops Q i K) D G e := by
  refine k_gval hi hg hd hn fun a w hfit hh => ?_
  subst hm hq
  have hl1 : ∀ l : List α, (l.flatMap f).length = l.length := fun l => by rw [flatMap_length hf]; omega
  have hcpy : (cpy xs ys).flatMap f = (ys.take xs.length).flatMap f ++ (xs.drop ys.length).flatMap f := by rw [cpy, List.flatMap_append]
  have hsplit : xs.flatMap f = (xs.take ys.length).flatMap f ++ (xs.drop ys.length).flatMap f := by rw [← List.flatMap_append, List.take_append_drop]
  rw [hcpy] at hs
  have hfit' := hs.fit
  have hsp := splice_part hsub hsplit (by rw [hl1, hl1, List.length_take, List.length_take]; omega) hs
  have hsc : ((ys.take xs.length).flatMap f).all sc = true := arr_sc h1 _
  obtain ⟨w', hr, hh'⟩ := stores_at (P := P) (w0 := w0) (D := D) (g := g) (b := b) (p := p) (j := j) ((ys.take xs.length).flatMap f) 0 cs G w hG (by rw [List.length_append] at hfit'; omega) hsc hh
  rw [Nat.add_zero, hsp] at hh'
  refine ⟨_, D, _, w', ?_, hh', h⟩
  have hsrc : (Builtin.firstCells 1 (Nat.min ys.length xs.length) (.slice A2 ys.length cap2)).run P w = .ok ((ys.take xs.length).flatMap f).toArray w := by
    have hn' : Nat.min ys.length xs.length = ((ys.take xs.length).flatMap f).length := by rw [hl1, List.length_take]; exact Nat.min_comm _ _
    by_cases he : ys.flatMap f = []
    · have hy0 : ys = [] := by
        have := hl1 ys
        rw [he] at this
        exact List.eq_nil_of_length_eq_zero this.symm
      subst hy0
      cases A2 with
      | none => simp [Builtin.firstCells]
      | some a2 => simpa [Builtin.firstCells] using run_loadCells_list (P := P) w a2 [] (by simp)
    · obtain ⟨J, hp, gd, dd, s'⟩ := id hh
      obtain ⟨_, _, h3⟩ := dd _ (nth_mem hD)
      obtain ⟨b2, p2, hA, hcs⟩ := h3.resolve_left he
      subst hA
      have := run_loadCells_list (P := P) w ⟨b2, p2, none⟩ ((ys.take xs.length).flatMap f) (fun i v hv => by
        have ha : (⟨b2, p2, none⟩ : Addr).add i = ⟨b2, p2 + i, none⟩ := by unfold Addr.add; split <;> simp_all
        rw [ha]
        refine gd.im _ _ _ (hcs i v ?_)
        have : ys.flatMap f = (ys.take xs.length).flatMap f ++ (ys.drop xs.length).flatMap f := by rw [← List.flatMap_append, List.take_append_drop]
        rw [this, List.getElem?_append_left (List.getElem?_eq_some_iff.1 hv).1]
        exact hv)
      rw [hn']
      simpa [Builtin.firstCells] using this
  have hgo : goInt (Nat.min ys.length xs.length) = vi (min ys.length xs.length : Nat) := rfl
  simp [execOp, ho, resolve, invoke, builtin, hfit.ops _ _ hx, hfit.ops _ _ hy, Builtin.copy_, run_underlying ht, Builtin.lenOf, sizeOf, typeInfo, hti, hts, hsrc, hr, hgo]
end
end Go.Proofs.YtpdoioeckiiegaaGreatDoor.Wl
