/- == on structs and arrays; values made of parts; stores, once more. -/
import Derived.Test.YtpdoioeckiiegaaGreatDoorWlR
import Derived.Laws.StructEq
import Derived.ChangeKeysEq
set_option linter.unusedSimpArgs false
set_option linter.unusedVariables false
namespace Go.Proofs.YtpdoioeckiiegaaGreatDoor.Wl
open Go.RowKit
section
variable {P : Program}
theorem part_one {t : TypeId} {cs : List Value} {off : Nat} {v : Value} (ha : ∀ w, (isAgg t).run P w = .ok false w) (h : SubAt cs off [v]) (w : World) : (part t cs.toArray off).run P w = .ok v w := by
  have h0 : cs[off]? = some v := by simpa using h 0 v rfl
  simp [part, ha, h0]
theorem part_agg {t : TypeId} {cs s : List Value} {off n : Nat} (ha : ∀ w, (isAgg t).run P w = .ok true w) (hn : ∀ w, (sizeOf t).run P w = .ok n w) (hl : s.length = n) (h : SubAt cs off s) (w : World) : (part t cs.toArray off).run P w = .ok (.agg s.toArray) w := by
  have he : (cs.drop off).take n = s := by
    apply List.ext_getElem?
    intro j
    by_cases hj : j < n
    · rw [List.getElem?_take_of_lt hj, List.getElem?_drop, h j _ (List.getElem?_eq_getElem (by omega)), List.getElem?_eq_getElem (by omega)]
    · rw [List.getElem?_eq_none (by rw [List.length_take]; omega), List.getElem?_eq_none (by omega)]
  simp [part, ha, hn, he]
/-- Values of type t, of cells f, are held against each other as what they stand for. -/
def EqE (P : Program) (t : TypeId) {α : Type} [DecidableEq α] (f : α → List Value) (d0 : Nat) : Prop :=
  ∀ d, d0 ≤ d → ∀ (xs ys : List Value) (off : Nat) (x y : α) (w : World), SubAt xs off (f x) → SubAt ys off (f y) →
    ∃ a b, (part t xs.toArray off).run P w = .ok a w ∧ (part t ys.toArray off).run P w = .ok b w ∧ (Op.equalIn d t a b).run P w = .ok (decide (x = y)) w
theorem eqe_i {t : TypeId} (ha : ∀ w, (isAgg t).run P w = .ok false w) (ht : P.underlying t = some (.int .i64)) : EqE P t Ei 1 := by
  intro d hd xs ys off x y w hx hy
  obtain ⟨d, rfl⟩ : ∃ k, d = k + 1 := ⟨d - 1, by omega⟩
  refine ⟨_, _, part_one ha hx w, part_one ha hy w, ?_⟩
  rw [vi, vi, run_equalIn_int (P := P) w d t .i64 .i64 x y ht]
  congr 1
theorem eqe_8 {t : TypeId} (ha : ∀ w, (isAgg t).run P w = .ok false w) (ht : P.underlying t = some (.int .u8)) : EqE P t E8 1 := by
  intro d hd xs ys off x y w hx hy
  obtain ⟨d, rfl⟩ : ∃ k, d = k + 1 := ⟨d - 1, by omega⟩
  refine ⟨_, _, part_one ha hx w, part_one ha hy w, ?_⟩
  rw [v8, v8, run_equalIn_int (P := P) w d t .u8 .u8 _ _ ht]
  congr 1
  rw [Bool.eq_iff_iff]; simp [← UInt8.toNat_inj]; omega
def Es (x : List UInt8) : List Value := [vs x]
theorem Es_len : ∀ x, (Es x).length = 1 := fun _ => rfl
theorem Es_one : ∀ x, ∀ u ∈ Es x, u.oneCell' = true := by intro x u hu; simp [Es] at hu; subst hu; rfl
def Eb (x : Bool) : List Value := [vb x]
theorem Eb_len : ∀ x, (Eb x).length = 1 := fun _ => rfl
theorem Eb_one : ∀ x, ∀ u ∈ Eb x, u.oneCell' = true := by intro x u hu; simp [Eb] at hu; subst hu; rfl
theorem eqe_s {t : TypeId} (ha : ∀ w, (isAgg t).run P w = .ok false w) (ht : P.underlying t = some .string) : EqE P t Es 1 := by
  intro d hd xs ys off x y w hx hy
  obtain ⟨d, rfl⟩ : ∃ k, d = k + 1 := ⟨d - 1, by omega⟩
  refine ⟨_, _, part_one ha hx w, part_one ha hy w, ?_⟩
  rw [vs, vs, run_equalIn_string (P := P) w d t _ _ ht, bs_list, bs_list]
  congr 1
  rw [Bool.eq_iff_iff]; simp
theorem eqe_b {t : TypeId} (ha : ∀ w, (isAgg t).run P w = .ok false w) (ht : P.underlying t = some .bool) : EqE P t Eb 1 := by
  intro d hd xs ys off x y w hx hy
  obtain ⟨d, rfl⟩ : ∃ k, d = k + 1 := ⟨d - 1, by omega⟩
  refine ⟨_, _, part_one ha hx w, part_one ha hy w, ?_⟩
  rw [vb, vb, run_equalIn_bool (P := P) w d t x y ht]
  congr 1
theorem eqItems_run {el : TypeId} {α : Type} [DecidableEq α] {f : α → List Value} {s d0 d : Nat} (hd : d0 ≤ d) (he : EqE P el f d0) (hf : ∀ x, (f x).length = s) (xs ys : List α) (hl : xs.length = ys.length) : ∀ (m k : Nat), k + m = xs.length → ∀ w,
    (Op.eqItems d el s (xs.flatMap f).toArray (ys.flatMap f).toArray (List.range' k m)).run P w = .ok (decide (xs.drop k = ys.drop k)) w := by
  intro m
  induction m with
  | zero =>
    intro k hk w
    rw [List.drop_of_length_le (by omega), List.drop_of_length_le (by omega)]
    simp [Op.eqItems]
  | succ m ih =>
    intro k hk w
    have h1 : k < xs.length := by omega
    have h2 : k < ys.length := by omega
    obtain ⟨a, b, p1, p2, p3⟩ := he d hd (xs.flatMap f) (ys.flatMap f) (k * s) xs[k] ys[k] w (fun i v hv => flatMap_get hf xs k _ (List.getElem?_eq_getElem h1) i v hv) (fun i v hv => flatMap_get hf ys k _ (List.getElem?_eq_getElem h2) i v hv)
    rw [List.range'_succ]
    simp only [Op.eqItems, Sem.run_bind, p1, p2, p3, Result.andThen_ok]
    have e1 : xs.drop k = xs[k] :: xs.drop (k + 1) := List.drop_eq_getElem_cons h1
    have e2 : ys.drop k = ys[k] :: ys.drop (k + 1) := List.drop_eq_getElem_cons h2
    rw [e1, e2]
    by_cases hxy : xs[k] = ys[k]
    · simp only [hxy, decide_true, Bool.not_true, Bool.false_eq_true, if_false, ih (k + 1) (by omega) w]
      congr 1
      rw [decide_eq_decide]
      exact ⟨fun h => by rw [h], fun h => (List.cons.inj h).2⟩
    · have hne : ¬ (xs[k] :: xs.drop (k + 1) = ys[k] :: ys.drop (k + 1)) := fun h => hxy (List.cons.inj h).1
      rw [decide_eq_false hne]
      simp [hxy]
theorem eqe_arr {t el : TypeId} {n s m d0 : Nat} {ti : TypeInfo} {α : Type} [DecidableEq α] {f : α → List Value} (hf : ∀ x, (f x).length = s) (he : EqE P el f d0) (ha : ∀ w, (isAgg t).run P w = .ok true w) (hn : ∀ w, (sizeOf t).run P w = .ok m w) (hm : n * s = m)
    (hu : P.underlying t = some (.array n el)) (hi : P.info? el = some ti) (hts : P.cellsOf el = s) : EqE P t (fun a : Arr α n => a.l.flatMap f) (d0 + 1) := by
  intro d hd xs ys off x y w hx hy
  obtain ⟨d, rfl⟩ : ∃ k, d = k + 1 := ⟨d - 1, by omega⟩
  refine ⟨_, _, part_agg ha hn (arr_len hf x hm) hx w, part_agg ha hn (arr_len hf y hm) hy w, ?_⟩
  rw [run_equalIn_array (P := P) w d _ _ hu hi, hts, List.range_eq_range']
  have := eqItems_run (by omega : d0 ≤ d) he hf x.l y.l (by rw [x.len, y.len]) n 0 (by rw [x.len]; omega) w
  rw [this]
  congr 1
  have : (x = y) = (x.l = y.l) := by
    apply propext
    exact ⟨fun h => by rw [h], Arr.ext⟩
  simp [this]
theorem eqf_nil' (d : Nat) (xs ys : Array Value) (w : World) : (Op.eqFields d xs ys []).run P w = .ok true w := by simp [Op.eqFields]
theorem eqf_cons' {α : Type} [DecidableEq α] {f : α → List Value} {d0 d : Nat} {xs ys : List Value} {fd : Field} {fs : List Field} {x y : α} {s : Bool} {w : World} (hn : (fd.name == "_") = false) (he : EqE P fd.type f d0) (hd : Nat.ble d0 d = true)
    (hx : SubAt xs fd.offset (f x)) (hy : SubAt ys fd.offset (f y)) (hr : (Op.eqFields d xs.toArray ys.toArray fs).run P w = .ok s w) : (Op.eqFields d xs.toArray ys.toArray (fd :: fs)).run P w = .ok (decide (x = y) && s) w := by
  have hn' : fd.name ≠ "_" := by simpa using hn
  obtain ⟨a, b, p1, p2, p3⟩ := he d (Nat.le_of_ble_eq_true hd) xs ys fd.offset x y w hx hy
  rw [Op.eqFields]
  simp only [if_pos hn', Sem.run_bind, p1, p2, p3, Result.andThen_ok]
  by_cases hxy : x = y
  · simpa [hxy] using hr
  · simp [hxy]
theorem eqe_struct {t : TypeId} {α : Type} [DecidableEq α] {f : α → List Value} {m d0 : Nat} {fs : Array Field} (ha : ∀ w, (isAgg t).run P w = .ok true w) (hn : ∀ w, (sizeOf t).run P w = .ok m w) (hl : ∀ x, (f x).length = m) (hu : P.underlying t = some (.struct fs)) (hp : P.stoodInHeld t = false)
    (h : ∀ d, d0 ≤ d → ∀ x y w, (Op.eqFields d (f x).toArray (f y).toArray fs.toList).run P w = .ok (decide (x = y)) w) : EqE P t f (d0 + 1) := by
  intro d hd xs ys off x y w hx hy
  obtain ⟨d, rfl⟩ : ∃ k, d = k + 1 := ⟨d - 1, by omega⟩
  refine ⟨_, _, part_agg ha hn (hl x) hx w, part_agg ha hn (hl y) hy w, ?_⟩
  have hf : P.fieldsOf t = fs := by simp [Program.fieldsOf, hu]
  rw [run_equalIn_struct (P := P) w d t _ _ (by rw [hf]; exact hu) hp, hf]
  exact h d (by omega) x y w
/-- == and != on whole structs and arrays. -/
theorem ev_eqA {e : Env} {o : Oper} {C : World → Prop} {t t2 : TypeId} {x y : Operand} {α : Type} [DecidableEq α] {f : α → List Value} {X Y : α} {d0 : Nat} {m : Nat} (ho : o.op = .binOp .eql t x y t2) (hx : opv e x = some (.agg (f X).toArray)) (hy : opv e y = some (.agg (f Y).toArray)) (he : EqE P t f d0) (hd : Nat.ble d0 10000 = true)
    (ha : ∀ w, (isAgg t).run P w = .ok true w) (hn : ∀ w, (sizeOf t).run P w = .ok m w) (hl : ∀ x, (f x).length = m) (hg : P.eqGuardType P.depth t = false) : Evals P e o (vb (decide (X = Y))) C := by
  intro ρ hρ w _
  obtain ⟨a, b, p1, p2, p3⟩ := he 10000 (Nat.le_of_ble_eq_true hd) (f X) (f Y) 0 X Y w (sub_all _) (sub_all _)
  rw [part_agg ha hn (hl X) (sub_all _) w] at p1
  rw [part_agg ha hn (hl Y) (sub_all _) w] at p2
  cases p1; cases p2
  have hq : (eqGuard .eql t x y (.agg (f X).toArray) (.agg (f Y).toArray)).run P w = .ok () w := by simp [eqGuard, hg]
  simp [execOp, ho, hρ _ _ hx, hρ _ _ hy, hq, run_eql_struct, p3, vb]
theorem ev_neA {e : Env} {o : Oper} {C : World → Prop} {t t2 : TypeId} {x y : Operand} {α : Type} [DecidableEq α] {f : α → List Value} {X Y : α} {d0 : Nat} {m : Nat} (ho : o.op = .binOp .neq t x y t2) (hx : opv e x = some (.agg (f X).toArray)) (hy : opv e y = some (.agg (f Y).toArray)) (he : EqE P t f d0) (hd : Nat.ble d0 10000 = true)
    (ha : ∀ w, (isAgg t).run P w = .ok true w) (hn : ∀ w, (sizeOf t).run P w = .ok m w) (hl : ∀ x, (f x).length = m) (hg : P.eqGuardType P.depth t = false) : Evals P e o (vb (!(decide (X = Y)))) C := by
  intro ρ hρ w _
  obtain ⟨a, b, p1, p2, p3⟩ := he 10000 (Nat.le_of_ble_eq_true hd) (f X) (f Y) 0 X Y w (sub_all _) (sub_all _)
  rw [part_agg ha hn (hl X) (sub_all _) w] at p1
  rw [part_agg ha hn (hl Y) (sub_all _) w] at p2
  cases p1; cases p2
  have hq : (eqGuard .neq t x y (.agg (f X).toArray) (.agg (f Y).toArray)).run P w = .ok () w := by simp [eqGuard, hg]
  simp [execOp, ho, hρ _ _ hx, hρ _ _ hy, hq, run_neq_struct, p3, vb]

/-! A struct made of parts: each part is written over the zero value. -/
theorem fold_splice (off : Nat) : ∀ (l : List Value) (j : Nat) (cs : Array Value), off + j + l.length ≤ cs.size →
    (l.zipIdx j).foldl (fun cs (x : Value × Nat) => cs.setIfInBounds (off + x.2) x.1) cs = (splice cs.toList (off + j) l).toArray := by
  intro l
  induction l with
  | nil => intro j cs _; simp [splice_nil]
  | cons x l ihl =>
    intro j cs hj
    simp only [List.length_cons] at hj
    simp only [List.zipIdx_cons, List.foldl_cons]
    rw [ihl (j + 1) _ (by simp; omega)]
    congr 1
    rw [Array.toList_setIfInBounds, show off + (j + 1) = (off + j) + 1 by omega, splice_cons _ _ _ _ (by simp; omega)]
theorem fill_nil {place : Nat → Option (Nat × Nat)} {cs : List Value} : Instr.fill place cs.toArray [] = some cs.toArray := rfl
theorem fill_cons {place : Nat → Option (Nat × Nat)} {cs cs' s out : List Value} {i off size : Nat} {v : Value} {rest : List (Nat × Value)} (hp : place i = some (off, size)) (hv : v.cells.toList = s) (hs : s.length = size) (h : Spl cs off s cs') (k : Instr.fill place cs'.toArray rest = some out.toArray) :
    Instr.fill place cs.toArray ((i, v) :: rest) = some out.toArray := by
  subst hv hs
  have hf := h.fit
  simp only [Instr.fill, hp]
  rw [if_neg (by simp at hf ⊢; omega)]
  have h1 : (v.cells.zipIdx.foldl (fun cs x => match x with | (c, j) => cs.setIfInBounds (off + j) c) cs.toArray) = (splice cs off v.cells.toList).toArray := by
    have h2 := fold_splice off v.cells.toList 0 cs.toArray (by simpa using hf)
    rw [Nat.add_zero, List.toList_toArray] at h2
    rw [← h2, ← Array.foldl_toList, Array.toList_zipIdx]
  rw [h1, h.eq]
  exact k
end
section
variable {P : Program} {w0 : World} {n : Nat} {Q : Post} {ops : Array Oper} {D : List PP} {G : List HP} {e : Env} {K : Act → World → Prop} {i d : Nat} {o : Oper}
theorem k_st {t : TypeId} {x y : Operand} {b p q j : Nat} {v : Value} {cs cs' vs : List Value} (hi : nth ops.toList i = some o) (ho : o.op = .store t x y) (hx : opv e x = some (.pointer (some ⟨b, q, none⟩))) (hy : opv e y = some v)
    (hv : v.cells.toList = vs) (hsz : ∀ w, (sizeOf t).run P w = .ok vs.length w) (hsc : vs.all sc = true)
    (g : Nat) (hG : nth G g = some (At b p cs)) (hs : Spl cs j vs cs') (hq : p + j = q) (hg : Goes e ops o) (hd : o.dst = none)
    (h : WK w0 n K D (put G g (At b p cs')) e) : WK w0 n (wpOp P ops Q i K) D G e :=
  k_store hi ho hx hy hv hsz hsc g hG j hq.symm (by have := hs.fit; exact Nat.ble_eq_true_of_le this) hs.eq hg hd h
end
end Go.Proofs.YtpdoioeckiiegaaGreatDoor.Wl
