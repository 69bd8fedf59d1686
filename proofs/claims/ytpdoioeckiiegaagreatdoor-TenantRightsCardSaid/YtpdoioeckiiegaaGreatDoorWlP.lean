/- More operations that leave the world alone, and the rules with tails. -/
import Derived.Test.YtpdoioeckiiegaaGreatDoorWlI
set_option linter.unusedSimpArgs false
set_option linter.unusedVariables false
namespace Go.Proofs.YtpdoioeckiiegaaGreatDoor.Wl
open Go.RowKit
section
variable {P : Program} {t : TypeId}
theorem eqIn_nn {el : TypeId} (k : Nat) (ht : ∀ w, (underlying t).run P w = .ok (.pointer el) w) (w : World) : (Op.equalIn (k + 1) t (.pointer none) (.pointer none)).run P w = .ok true w := by simp [Op.equalIn, ht]
theorem eqIn_pn {el : TypeId} (k : Nat) {a : Addr} (ht : ∀ w, (underlying t).run P w = .ok (.pointer el) w) (w : World) : (Op.equalIn (k + 1) t (.pointer (some a)) (.pointer none)).run P w = .ok false w := by simp [Op.equalIn, ht]
theorem eqIn_np {el : TypeId} (k : Nat) {a : Addr} (ht : ∀ w, (underlying t).run P w = .ok (.pointer el) w) (w : World) : (Op.equalIn (k + 1) t (.pointer none) (.pointer (some a))).run P w = .ok false w := by simp [Op.equalIn, ht]
theorem eqIn_b (k : Nat) (x y : Bool) (ht : ∀ w, (underlying t).run P w = .ok .bool w) (w : World) : (Op.equalIn (k + 1) t (.bool x) (.bool y)).run P w = .ok (x == y) w := by simp [Op.equalIn, ht]
theorem bin_eql {X Y : Value} {b : Bool} (hb : binOp .eql t X Y = (do pure (.bool (← Op.equal t X Y)))) (h : ∀ w, (Op.equalIn (9999 + 1) t X Y).run P w = .ok b w) : Bin P .eql t X Y (vb b) := fun w => by
  rw [hb]
  have h2 : (Op.equal t X Y).run P w = .ok b w := h w
  simp [h2, vb]
theorem bin_neq {X Y : Value} {b : Bool} (hb : binOp .neq t X Y = (do pure (.bool (!(← Op.equal t X Y))))) (h : ∀ w, (Op.equalIn (9999 + 1) t X Y).run P w = .ok b w) : Bin P .neq t X Y (vb (!b)) := fun w => by
  rw [hb]
  have h2 : (Op.equal t X Y).run P w = .ok b w := h w
  simp [h2, vb]
theorem eql_ptr_nn {el : TypeId} (ht : ∀ w, (underlying t).run P w = .ok (.pointer el) w) : Bin P .eql t (.pointer none) (.pointer none) (vb true) := bin_eql rfl (eqIn_nn _ ht)
theorem eql_ptr_pn {el : TypeId} {a : Addr} (ht : ∀ w, (underlying t).run P w = .ok (.pointer el) w) : Bin P .eql t (.pointer (some a)) (.pointer none) (vb false) := bin_eql rfl (eqIn_pn _ ht)
theorem eql_ptr_np {el : TypeId} {a : Addr} (ht : ∀ w, (underlying t).run P w = .ok (.pointer el) w) : Bin P .eql t (.pointer none) (.pointer (some a)) (vb false) := bin_eql rfl (eqIn_np _ ht)
theorem neq_ptr_nn {el : TypeId} (ht : ∀ w, (underlying t).run P w = .ok (.pointer el) w) : Bin P .neq t (.pointer none) (.pointer none) (vb false) := bin_neq rfl (eqIn_nn _ ht)
theorem neq_ptr_pn {el : TypeId} {a : Addr} (ht : ∀ w, (underlying t).run P w = .ok (.pointer el) w) : Bin P .neq t (.pointer (some a)) (.pointer none) (vb true) := bin_neq rfl (eqIn_pn _ ht)
theorem neq_ptr_np {el : TypeId} {a : Addr} (ht : ∀ w, (underlying t).run P w = .ok (.pointer el) w) : Bin P .neq t (.pointer none) (.pointer (some a)) (vb true) := bin_neq rfl (eqIn_np _ ht)
theorem eql_b (x y : Bool) (ht : ∀ w, (underlying t).run P w = .ok .bool w) : Bin P .eql t (vb x) (vb y) (vb (x == y)) := bin_eql rfl (eqIn_b _ x y ht)
theorem neq_b (x y : Bool) (ht : ∀ w, (underlying t).run P w = .ok .bool w) : Bin P .neq t (vb x) (vb y) (vb (x != y)) := bin_neq rfl (eqIn_b _ x y ht)
theorem bs_list (l : List UInt8) : (ByteArray.mk l.toArray).toList = l := by
  have h : ∀ (b : ByteArray), b.toList = b.data.toList := by
    intro b
    have go : ∀ (n i : Nat) (r : List UInt8), b.size - i = n → ByteArray.toList.loop b i r = r.reverse ++ (b.data.toList.drop i) := by
      intro n
      induction n with
      | zero =>
        intro i r hi
        unfold ByteArray.toList.loop
        have hsz : b.size ≤ i := by omega
        rw [if_neg (by omega)]
        have : b.data.toList.length ≤ i := hsz
        rw [List.drop_of_length_le this, List.append_nil]
      | succ n ih =>
        intro i r hi
        unfold ByteArray.toList.loop
        have hlt : i < b.size := by omega
        rw [if_pos hlt, ih (i + 1) _ (by omega)]
        have hl : i < b.data.toList.length := hlt
        rw [List.drop_eq_getElem_cons hl, List.reverse_cons, List.append_assoc]
        congr 1
        simp only [List.singleton_append, List.cons.injEq, and_true]
        have hl2 : i < b.data.size := hlt
        show b.data[i]! = _
        rw [getElem!_pos b.data i hl2]
        rfl
    have := go (b.size - 0) 0 [] rfl
    simpa [ByteArray.toList] using this
  rw [h]
theorem eql_s (x y : List UInt8) : Bin P .eql t (vs x) (vs y) (vb (x == y)) := fun w => by simp [binOp, vs, vb, Op.stringOp, bs_list]
theorem neq_s (x y : List UInt8) : Bin P .neq t (vs x) (vs y) (vb (x != y)) := fun w => by simp [binOp, vs, vb, Op.stringOp, bs_list, bne]
theorem add_s (x y : List UInt8) (h : x.length + y.length ≤ 68719476736) : Bin P .add t (vs x) (vs y) (vs (x ++ y)) := fun w => by
  have h1 : ¬ (((x.length + y.length : Nat) : Int) > IntKind.i64.max) := by simp [IntKind.max, IntKind.signed, IntKind.bits]; omega
  have h2 : (ByteArray.mk x.toArray ++ ByteArray.mk y.toArray) = ByteArray.mk (x ++ y).toArray := by
    apply ByteArray.ext; simp
  simp only [binOp, vs, Op.stringOp, bsz, h1, if_false, h2]
  rfl
end
section
variable {P : Program} {s d : TypeId}
theorem conv_u8_u32 (x : UInt8) (hs : ∀ w, (underlying s).run P w = .ok (.int .u8) w) (hd : ∀ w, (underlying d).run P w = .ok (.int .u32) w) : ∀ w, (convert s d (v8 x)).run P w = .ok (v32 x.toUInt32) w := fun w => by
  have := x.toNat_lt
  simp [convert, hs, hd, v8, v32, Conv.intToInt, wrap32_nat x.toNat (by omega)]
theorem conv_u8_u64 (x : UInt8) (hs : ∀ w, (underlying s).run P w = .ok (.int .u8) w) (hd : ∀ w, (underlying d).run P w = .ok (.int .u64) w) : ∀ w, (convert s d (v8 x)).run P w = .ok (v64 x.toUInt64) w := fun w => by
  have := x.toNat_lt
  simp [convert, hs, hd, v8, v64, Conv.intToInt, wrap64_nat x.toNat (by omega)]
theorem conv_u32_u64 (x : UInt32) (hs : ∀ w, (underlying s).run P w = .ok (.int .u32) w) (hd : ∀ w, (underlying d).run P w = .ok (.int .u64) w) : ∀ w, (convert s d (v32 x)).run P w = .ok (v64 x.toUInt64) w := fun w => by
  have := x.toNat_lt
  simp [convert, hs, hd, v32, v64, Conv.intToInt, wrap64_nat x.toNat (by omega)]
theorem conv_u64_u32 (x : UInt64) (hs : ∀ w, (underlying s).run P w = .ok (.int .u64) w) (hd : ∀ w, (underlying d).run P w = .ok (.int .u32) w) : ∀ w, (convert s d (v64 x)).run P w = .ok (v32 x.toUInt32) w := fun w => by
  simp [convert, hs, hd, v64, v32, Conv.intToInt, IntKind.wrap, IntKind.bits, IntKind.signed]
theorem conv_u64_u8 (x : UInt64) (hs : ∀ w, (underlying s).run P w = .ok (.int .u64) w) (hd : ∀ w, (underlying d).run P w = .ok (.int .u8) w) : ∀ w, (convert s d (v64 x)).run P w = .ok (v8 x.toUInt8) w := fun w => by
  simp [convert, hs, hd, v64, v8, Conv.intToInt, IntKind.wrap, IntKind.bits, IntKind.signed]
theorem conv_u32_u8 (x : UInt32) (hs : ∀ w, (underlying s).run P w = .ok (.int .u32) w) (hd : ∀ w, (underlying d).run P w = .ok (.int .u8) w) : ∀ w, (convert s d (v32 x)).run P w = .ok (v8 x.toUInt8) w := fun w => by
  simp [convert, hs, hd, v32, v8, Conv.intToInt, IntKind.wrap, IntKind.bits, IntKind.signed]
theorem conv_u8_i (x : UInt8) (hs : ∀ w, (underlying s).run P w = .ok (.int .u8) w) (hd : ∀ w, (underlying d).run P w = .ok (.int .i64) w) : ∀ w, (convert s d (v8 x)).run P w = .ok (vi (x.toNat : Int)) w := fun w => by
  have := x.toNat_lt
  have h : wrap64 (x.toNat : Int) = x.toNat := IntWalk.wrap64_in _ (by omega)
  simp [convert, hs, hd, v8, vi, Conv.intToInt, IntWalk.i64_left, h]
theorem conv_u8_r (x : UInt8) (hs : ∀ w, (underlying s).run P w = .ok (.int .u8) w) (hd : ∀ w, (underlying d).run P w = .ok (.int .i32) w) : ∀ w, (convert s d (v8 x)).run P w = .ok (vr (x.toNat : Int)) w := fun w => by
  have := x.toNat_lt
  have h : wrap32 (x.toNat : Int) = x.toNat := IntWalk.wrap32_in _ (by omega)
  simp [convert, hs, hd, v8, vr, Conv.intToInt, IntWalk.i32_left, h]
theorem conv_u64_i (x : UInt64) (hs : ∀ w, (underlying s).run P w = .ok (.int .u64) w) (hd : ∀ w, (underlying d).run P w = .ok (.int .i64) w) : ∀ w, (convert s d (v64 x)).run P w = .ok (vi (wrap64 (x.toNat : Int))) w := fun w => by
  simp [convert, hs, hd, v64, vi, Conv.intToInt, IntWalk.i64_left]
theorem conv_i_u64 (x : Int) (hs : ∀ w, (underlying s).run P w = .ok (.int .i64) w) (hd : ∀ w, (underlying d).run P w = .ok (.int .u64) w) : ∀ w, (convert s d (vi x)).run P w = .ok (v64 (UInt64.ofInt x)) w := fun w => by
  have h : IntKind.u64.wrap x = ((UInt64.ofInt x).toNat : Int) := by
    simp [IntKind.wrap, IntKind.bits, IntKind.signed, UInt64.ofInt]; omega
  simp [convert, hs, hd, v64, vi, Conv.intToInt, h]
theorem conv_i_u32 (x : Int) (hs : ∀ w, (underlying s).run P w = .ok (.int .i64) w) (hd : ∀ w, (underlying d).run P w = .ok (.int .u32) w) : ∀ w, (convert s d (vi x)).run P w = .ok (v32 (UInt32.ofInt x)) w := fun w => by
  have h : IntKind.u32.wrap x = ((UInt32.ofInt x).toNat : Int) := by
    simp [IntKind.wrap, IntKind.bits, IntKind.signed, UInt32.ofInt]; omega
  simp [convert, hs, hd, v32, vi, Conv.intToInt, h]
theorem conv_i_u8 (x : Int) (hs : ∀ w, (underlying s).run P w = .ok (.int .i64) w) (hd : ∀ w, (underlying d).run P w = .ok (.int .u8) w) : ∀ w, (convert s d (vi x)).run P w = .ok (v8 (UInt8.ofInt x)) w := fun w => by
  have h : IntKind.u8.wrap x = ((UInt8.ofInt x).toNat : Int) := by
    simp [IntKind.wrap, IntKind.bits, IntKind.signed, UInt8.ofInt]; omega
  simp [convert, hs, hd, v8, vi, Conv.intToInt, h]
theorem conv_r_u8 (x : Int) (hs : ∀ w, (underlying s).run P w = .ok (.int .i32) w) (hd : ∀ w, (underlying d).run P w = .ok (.int .u8) w) : ∀ w, (convert s d (vr x)).run P w = .ok (v8 (UInt8.ofInt x)) w := fun w => by
  have h : IntKind.u8.wrap x = ((UInt8.ofInt x).toNat : Int) := by
    simp [IntKind.wrap, IntKind.bits, IntKind.signed, UInt8.ofInt]; omega
  simp [convert, hs, hd, v8, vr, Conv.intToInt, h]
theorem conv_r_i (x : Int) (hs : ∀ w, (underlying s).run P w = .ok (.int .i32) w) (hd : ∀ w, (underlying d).run P w = .ok (.int .i64) w) : ∀ w, (convert s d (vr x)).run P w = .ok (vi (wrap64 x)) w := fun w => by
  simp [convert, hs, hd, vi, vr, Conv.intToInt, IntWalk.i64_left]
theorem conv_i_r (x : Int) (hs : ∀ w, (underlying s).run P w = .ok (.int .i64) w) (hd : ∀ w, (underlying d).run P w = .ok (.int .i32) w) : ∀ w, (convert s d (vi x)).run P w = .ok (vr (wrap32 x)) w := fun w => by
  simp [convert, hs, hd, vi, vr, Conv.intToInt, IntWalk.i32_left]
theorem conv_s_s (x : List UInt8) (hs : ∀ w, (underlying s).run P w = .ok .string w) (hd : ∀ w, (underlying d).run P w = .ok .string w) : ∀ w, (convert s d (vs x)).run P w = .ok (vs x) w := fun w => by
  simp [convert, hs, hd, vs]
end
section
variable {P : Program} {w0 : World} {n : Nat} {Q : Post} {ops : Array Oper} {D : List PP} {G : List HP} {e : Env} {i d : Nat} {o : Oper} {l : List Nat}
/-- Those at places is, and all behind the first m. -/
def keepL {α : Type} (is : List Nat) (m : Nat) (l : List α) : Option (List α) := match allAt l is with
  | none => none
  | some a => some (a ++ l.drop m)
theorem keepL_mem {α : Type} {is : List Nat} {m : Nat} {l l' : List α} (h : keepL is m l = some l') : ∀ p ∈ l', p ∈ l := by
  unfold keepL at h
  split at h
  · cases h
  · rename_i a ha
    cases h
    intro p hp
    rcases List.mem_append.1 hp with q | q
    · exact allAt_mem ha p q
    · exact List.mem_of_mem_drop q
def pickL {α : Type} (is : List Nat) (m : Nat) (l : List α) : Option (List α) := match picks is l with
  | none => none
  | some (a, b) => some (a ++ b.drop m)
theorem Holds.pickL {w : World} (h : Holds w0 D G w) {is : List Nat} {m : Nat} {G' : List HP} (hp : Wl.pickL is m G = some G') : Holds w0 D G' w := by
  unfold Wl.pickL at hp
  split at hp
  · cases hp
  · rename_i a b hab
    cases hp
    have h1 := h.picked is hab
    obtain ⟨J, k, g, d, s⟩ := h1
    obtain ⟨x, y, dd, lx, ly, s1, s2⟩ := Sat.split s
    have hdrop : ∀ (m : Nat) (B : List HP) (y : Hp), Sat B J y → Sat (B.drop m) J y := by
      intro m
      induction m with
      | zero => intro B y s; exact s
      | succ m ih =>
        intro B y s
        cases B with
        | nil => exact s
        | cons A B =>
          obtain ⟨_, _, _, _, b2, _, s2⟩ := s
          exact ih B y (s2.mono (Im.le_refl _) b2)
    exact ⟨J, k, g, d, Sat.append dd lx ly s1 (hdrop m b y s2)⟩
theorem k_wk {K : Act → World → Prop} {e' : Env} {D' : List PP} {G' : List HP} (h : WK w0 n K D' G' e') (ts ds : List Nat) (md : Nat) (gs : List Nat) (mg : Nat) (hk : keepEnv e ts = some e') (hd : keepL ds md D = some D') (hg : pickL gs mg G = some G') : WK w0 n K D G e :=
  fun a w hf hh => h a w (hf.sub (keepEnv_sub hk)) ((hh.pickL hg).weakD (keepL_mem hd))
/-- Ways that meet again at the normal end. -/
theorem q_join {ρ X Y : Type} {R : X → Option ρ} {F : (X → Option ρ) → Option ρ} {r : ρ} {c : Code} (st : X → Y → St) (H : jn R F = some r)
    (hJ : ∀ x y, R x = some r → WQ w0 n Q (st x y).D (st x y).G (st x y).e .normal)
    (hF : ∀ R : X → Option ρ, (∀ x y, R x = some r → WQ w0 n Q (st x y).D (st x y).G (st x y).e .normal) → F R = some r → WS P w0 n Q D G e c) : WS P w0 n Q D G e c := hF R hJ H
/-- What a slice of bytes reads as, as a text. -/
def HasB (A : Option Addr) (m cap : Nat) (xs : List UInt8) (w : World) : Prop := xs.length = m ∧ (xs = [] ∨ ∃ b o, A = some ⟨b, o, none⟩ ∧ Has b o (xs.flatMap E8) w)
theorem hSl (di : Nat) {A : Option Addr} {cap : Nat} {xs : List UInt8} (h : nth D di = some (Sl E8 A cap xs)) : ∀ w, Holds w0 D G w → HasB A xs.length cap xs w := by
  intro w hh
  obtain ⟨J, k, g, dd, _⟩ := hh
  refine ⟨rfl, ?_⟩
  rcases (dd _ (nth_mem h)).2.2 with h0 | ⟨b, o, hA, hcs⟩
  · left
    have := flatMap_length E8_len xs
    rw [h0] at this
    simp at this
    exact List.length_eq_zero_iff.1 this.symm
  · exact .inr ⟨b, o, hA, fun j v hv => g.im _ _ _ (hcs j v hv)⟩
theorem ev_bytes_string {s d' el : TypeId} {x : Operand} {A : Option Addr} {cap : Nat} {xs : List UInt8} (ho : o.op = .convert s d' x) (hx : opv e x = some (.slice A xs.length cap))
    (hs : ∀ w, (underlying s).run P w = .ok (.slice el) w) (hd : ∀ w, (underlying d').run P w = .ok .string w) (he : ∀ w, (underlying el).run P w = .ok (.int .u8) w) : Evals P e o (vs xs) (HasB A xs.length cap xs) := by
  intro ρ hρ w hC
  have key : (Conv.bytesToString (.slice A xs.length cap)).run P w = .ok (vs xs) w := by
    rcases hC.2 with h0 | ⟨b, p, rfl, hcs⟩
    · subst h0
      cases A with
      | none => rfl
      | some a => rfl
    · have hload := run_loadCells_list (P := P) (w := w) ⟨b, p, none⟩ ((xs.map fun x => (x.toNat : Int)).map (Value.int .u8)) (fun j v hv => by
        have hj : j < xs.length := by have := (List.getElem?_eq_some_iff.1 hv).1; simpa using this
        have h3 := flatMap_get E8_len xs j xs[j] (List.getElem?_eq_getElem hj) 0 (v8 xs[j]) rfl
        have h4 := hcs j (v8 xs[j]) (by simpa using h3)
        have ha : (⟨b, p, none⟩ : Addr).add j = ⟨b, p + j, none⟩ := by unfold Addr.add; split <;> simp_all
        rw [ha, h4]
        simp [hj] at hv
        rw [← hv]
        rfl)
      have h1 := run_bytesToString (P := P) w ⟨b, p, none⟩ xs.length cap (xs.map fun x => (x.toNat : Int)) (by simpa using hload)
      rw [h1]
      have hfold : ∀ (l : List UInt8) (r : ByteArray), (l.map fun x => (x.toNat : Int)).foldl (fun r n => r.push (UInt8.ofNat n.toNat)) r = ⟨r.data ++ l.toArray⟩ := by
        intro l
        induction l with
        | nil => intro r; apply ByteArray.ext; simp
        | cons x l ih =>
          intro r
          simp only [List.map_cons, List.foldl_cons]
          rw [ih]
          apply ByteArray.ext
          simp [ByteArray.push]
      rw [hfold]
      congr 2
      apply ByteArray.ext
      show #[] ++ xs.toArray = xs.toArray
      simp
  cases A with
  | none => simp [execOp, ho, hρ _ _ hx, convert, hs, hd, he, key]
  | some a => simp [execOp, ho, hρ _ _ hx, convert, hs, hd, he, key]
end
end Go.Proofs.YtpdoioeckiiegaaGreatDoor.Wl
