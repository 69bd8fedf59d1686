/- Plain laws of the flash: what each of its functions comes to. -/
import Derived.Test.YtpdoioeckiiegaaGreatDoorWlX
import Derived.Test.YtpdoioeckiiegaaGreatDoorWlPl
set_option linter.unusedSimpArgs false
set_option linter.unusedVariables false
set_option maxRecDepth 10000
namespace Go.Proofs.YtpdoioeckiiegaaGreatDoor.Wl
open Go.RowKit Go.Proofs
/-- Which bits of a byte stay, when an operation is cut. -/
def stay (mask : List UInt8) (cut : Bool) (i : Nat) : UInt8 := if cut = true ∧ mask ≠ [] then mask.getD (i % mask.length) 0 else 0
def mix1 (m x c : UInt8) : UInt8 := x ^^^ ((x ^^^ c) &&& ~~~m)
/-- Bytes from place q on, turned to others, as far as the mask lets them. -/
def mixL (mask : List UInt8) (cut : Bool) (q : Nat) : Nat → List UInt8 → List UInt8 → List UInt8
  | _, b, [] => b
  | i, b, c :: to => mixL mask cut q (i + 1) (b.set (q + i) (mix1 (stay mask cut i) (b.getD (q + i) 0) c)) to
theorem mixL_len (mask : List UInt8) (cut : Bool) (q : Nat) : ∀ (to : List UInt8) (i : Nat) (b : List UInt8), (mixL mask cut q i b to).length = b.length := by
  intro to
  induction to with
  | nil => intro i b; rfl
  | cons c to ih => intro i b; rw [mixL, ih, List.length_set]
theorem stays_eq (f : FlashS) (i : Nat) (cut : Bool) (hi : i < 1000000000000) : nor_Flash_stays f (i : Int) cut = some (stay f.mask cut i) := by
  unfold nor_Flash_stays stay
  simp only [bnd_def, jn_def, or_def]
  cases cut with
  | false => simp
  | true =>
    simp only [Bool.not_true, Bool.false_or]
    by_cases hm : f.mask = []
    · simp [hm]
    · have hl : 0 < f.mask.length := List.length_pos_iff.2 hm
      have h0 : ((f.mask.length : Int) == 0) = false := by simp; exact hm
      have ht : (i : Int).tmod (f.mask.length : Int) = ((i % f.mask.length : Nat) : Int) := by
        rw [Int.tmod_eq_emod_of_nonneg (by omega)]; rfl
      have hlt := Nat.mod_lt i hl
      rw [h0, cond_false, ht, chk_t ⟨by omega, by omega⟩, chk_t (by simp [hm]), if_pos ⟨trivial, hm⟩]
      simp only [at', Int.toNat_natCast]
theorem work_l (f : FlashS) (q : Nat) (to : List UInt8) (J : FlashS → Option (Int × FlashS)) (hq : q + to.length ≤ 1000000000) : ∀ (n k i : Nat) (s : FlashS), i + n = to.length → n < k → q + to.length ≤ s.b.length → s.b.length ≤ 1000000000 →
    nor_Flash_work_l0 f (q : Int) to J k ((i : Int), s) = J ⟨mixL s.mask (f.cut == 0) q i s.b (to.drop i), s.wear, s.cut, s.mask, s.off, s.ops⟩ := by
  intro n
  induction n with
  | zero =>
    intro k i s h hk hb hB
    obtain ⟨k, rfl⟩ : ∃ m, k = m + 1 := ⟨k - 1, by omega⟩
    rw [nor_Flash_work_l0, List.drop_of_length_le (by omega)]
    dsimp only
    rw [dec_f (by omega), cond_false]
    rfl
  | succ n ih =>
    intro k i s h hk hb hB
    obtain ⟨k, rfl⟩ : ∃ m, k = m + 1 := ⟨k - 1, by omega⟩
    have hi : i < to.length := by omega
    have hw : wrap64 ((q : Int) + (i : Int)) = ((q + i : Nat) : Int) := by rw [w64 _ (by omega)]; omega
    have hc : 0 ≤ ((q + i : Nat) : Int) ∧ ((q + i : Nat) : Int) < (s.b.length : Int) ∧ ((q + i : Nat) : Int) < (s.b.length : Int) := by omega
    rw [nor_Flash_work_l0]
    dsimp only
    rw [dec_t (by omega), cond_true, chk_t (by omega), stays_eq _ _ _ (by omega), Option.bind_some, hw, chk_t hc, chk_t hc, chk_t hc, chk_t (by rw [List.length_set]), w64 ((i : Int) + 1) (by omega)]
    have hd : to.drop i = to[i] :: to.drop (i + 1) := List.drop_eq_getElem_cons hi
    have hn : ((i : Int) + 1) = ((i + 1 : Nat) : Int) := by omega
    rw [hn, ih k (i + 1) _ (by omega) (by omega) (by simpa using hb) (by simpa using hB), hd, mixL]
    have e1 : at' 0 to (i : Int) = to[i] := by simp [at', List.getD, hi]
    have e2 : at' 0 s.b ((q + i : Nat) : Int) = s.b.getD (q + i) 0 := by simp only [at', Int.toNat_natCast]
    rw [e1, e2]
    rfl
def workS (f : FlashS) (q : Nat) (to : List UInt8) : Int × FlashS :=
  bif f.cut == 0 then (4, ⟨mixL f.mask true q 0 f.b to, f.wear, f.cut - 1, f.mask, true, wrap64 (f.ops + 1)⟩)
  else (0, ⟨mixL f.mask false q 0 f.b to, f.wear, if f.cut ≥ 0 then f.cut - 1 else f.cut, f.mask, f.off, wrap64 (f.ops + 1)⟩)
theorem work_eq (f : FlashS) (q : Nat) (to : List UInt8) (hq : q + to.length ≤ f.b.length) (hb : f.b.length ≤ 1000000000) (hc : f.cut ≤ 9223372036854775807) : nor_Flash_work f (q : Int) to = some (workS f q to) := by
  obtain ⟨F, hF⟩ : ∃ F, F = Fuel := ⟨_, rfl⟩
  have hf : 2000000000 < F := by rw [hF]; exact fuel_ge (by omega)
  unfold nor_Flash_work workS
  simp only [jn_def, ← hF]
  have key : ∀ (J : FlashS → Option (Int × FlashS)) (s : FlashS), s.b = f.b → nor_Flash_work_l0 f (q : Int) to J F (0, s) = J ⟨mixL s.mask (f.cut == 0) q 0 s.b to, s.wear, s.cut, s.mask, s.off, s.ops⟩ := fun J s hs => by
    have := work_l f q to J (by omega) to.length F 0 s (by omega) (by omega) (by rw [hs]; exact hq) (by rw [hs]; exact hb)
    simpa using this
  by_cases h0 : f.cut ≥ 0
  · rw [dec_t h0, cond_true, key _ ⟨f.b, f.wear, wrap64 (f.cut - 1), f.mask, f.off, wrap64 (f.ops + 1)⟩ rfl, w64 (f.cut - 1) (by omega)]
    by_cases h1 : f.cut = 0
    · have : (f.cut == 0) = true := by simpa using h1
      simp only [this, cond_true]
    · have : (f.cut == 0) = false := by simpa using h1
      simp only [this, cond_false, if_pos h0]
  · rw [dec_f h0, cond_false, key _ ⟨f.b, f.wear, f.cut, f.mask, f.off, wrap64 (f.ops + 1)⟩ rfl]
    have : (f.cut == 0) = false := by simp; omega
    simp only [this, cond_false, if_neg h0]
theorem mix1_0 (x c : UInt8) : mix1 0 x c = c := by
  unfold mix1
  apply UInt8.eq_of_toBitVec_eq
  simp only [UInt8.toBitVec_xor, UInt8.toBitVec_and, UInt8.toBitVec_not]
  have h : ~~~(0 : UInt8).toBitVec = BitVec.allOnes 8 := rfl
  rw [h, BitVec.and_allOnes, ← BitVec.xor_assoc, BitVec.xor_self, BitVec.zero_xor]
theorem set_take (b : List UInt8) (p : Nat) (c : UInt8) (h : p < b.length) : (b.set p c).take (p + 1) = b.take p ++ [c] := by
  rw [List.set_eq_take_append_cons_drop, if_pos h, List.take_append, List.take_of_length_le (by rw [List.length_take]; omega), List.length_take, Nat.min_eq_left (by omega), show p + 1 - p = 1 by omega]
  rfl
theorem set_drop (b : List UInt8) (p m : Nat) (c : UInt8) (h : p < m) : (b.set p c).drop m = b.drop m := by
  apply List.ext_getElem?
  intro i
  rw [List.getElem?_drop, List.getElem?_drop, List.getElem?_set_ne (by omega)]
/-- Nothing is cut: the bytes lie there. -/
theorem mixL_plain (mask : List UInt8) (q : Nat) : ∀ (to : List UInt8) (i : Nat) (b : List UInt8), q + i + to.length ≤ b.length → mixL mask false q i b to = b.take (q + i) ++ (to ++ b.drop (q + i + to.length)) := by
  intro to
  induction to with
  | nil => intro i b h; simp [mixL]
  | cons c to ih =>
    intro i b h
    simp only [List.length_cons] at h
    have hs : stay mask false i = 0 := by simp [stay]
    rw [mixL, hs, mix1_0, ih (i + 1) _ (by simp; omega), show q + (i + 1) = q + i + 1 by omega, set_take _ _ _ (by omega), set_drop _ _ _ _ (by omega), List.append_assoc]
    simp only [List.cons_append, List.nil_append, List.length_cons]
    rw [show q + i + 1 + to.length = q + i + (to.length + 1) by omega]
/-- What a flash is like. -/
structure WfF (f : FlashS) : Prop where
  len : f.b.length = f.wear.length * 320
  small : f.wear.length ≤ 400
  cut : f.cut ≤ 9223372036854775807
theorem fLen (f : FlashS) : nor_Flash_Len f = some (f.wear.length : Int) := rfl
theorem within_eq (f : FlashS) (h : WfF f) (q n : Int) (hq : -1000000000 ≤ q ∧ q ≤ 1000000000) (hn : 0 ≤ n ∧ n ≤ 1000000000) : nor_Flash_within f q n = some (decide (0 ≤ q ∧ q + n ≤ f.b.length)) := by
  have h1 := h.len
  have h2 := h.small
  unfold nor_Flash_within
  rw [fLen, Option.bind_some]
  simp only [bnd_def, jn_def, and_def]
  rw [w64 ((f.wear.length : Int) * 320) (by omega), w64 _ (by omega), h1]
  congr 1
  rw [Bool.eq_iff_iff]
  simp only [Bool.and_eq_true, decide_eq_true_eq]
  push_cast
  omega
theorem is_eq (f : FlashS) (s : Int) : nor_Flash_is f s = some (decide (0 ≤ s ∧ s < f.wear.length)) := by
  unfold nor_Flash_is
  simp only [bnd_def, jn_def, fLen, Option.bind_some, and_def]
  congr 1
  rw [Bool.eq_iff_iff]
  simp
theorem wear_eq (f : FlashS) (s : Int) : nor_Flash_Wear f s = some (if 0 ≤ s ∧ s < f.wear.length then at' 0 f.wear s else 0) := by
  unfold nor_Flash_Wear
  rw [is_eq, Option.bind_some]
  by_cases h : 0 ≤ s ∧ s < f.wear.length
  · rw [dec_t h, Bool.not_true, cond_false, chk_t ⟨h.1, h.2, h.2⟩, if_pos h]
  · rw [dec_f h, Bool.not_false, cond_true, if_neg h]
/-- Is no bit to be made 1? -/
def okB : List UInt8 → List UInt8 → Bool
  | x :: xs, c :: cs => ((c &&& ~~~x) == 0) && okB xs cs
  | _, _ => true
theorem prog_l (f : FlashS) (q : Nat) (b : List UInt8) (J : Unit → Option (Int × FlashS)) (hq : q + b.length ≤ f.b.length) (hB : f.b.length ≤ 1000000000) : ∀ (n k i : Nat), i + n = b.length → n < k →
    nor_Flash_Program_l0 f (q : Int) b J k (i : Int) = bif okB (f.b.drop (q + i)) (b.drop i) then J () else some (3, f) := by
  intro n
  induction n with
  | zero =>
    intro k i h hk
    obtain ⟨k, rfl⟩ : ∃ m, k = m + 1 := ⟨k - 1, by omega⟩
    rw [nor_Flash_Program_l0, List.drop_of_length_le (l := b) (by omega), dec_f (by omega), cond_false]
    cases f.b.drop (q + i) <;> rfl
  | succ n ih =>
    intro k i h hk
    obtain ⟨k, rfl⟩ : ∃ m, k = m + 1 := ⟨k - 1, by omega⟩
    have hi : i < b.length := by omega
    have hw : wrap64 ((q : Int) + (i : Int)) = ((q + i : Nat) : Int) := by rw [w64 _ (by omega)]; omega
    have hc : 0 ≤ ((q + i : Nat) : Int) ∧ ((q + i : Nat) : Int) < (f.b.length : Int) ∧ ((q + i : Nat) : Int) < (f.b.length : Int) := by omega
    have hn : ((i : Int) + 1) = ((i + 1 : Nat) : Int) := by omega
    have hd : b.drop i = b[i] :: b.drop (i + 1) := List.drop_eq_getElem_cons hi
    have hqi : q + i < f.b.length := by omega
    have hd2 : f.b.drop (q + i) = f.b[q + i] :: f.b.drop (q + (i + 1)) := List.drop_eq_getElem_cons hqi
    have e1 : at' 0 b (i : Int) = b[i] := by simp [at', List.getD, hi]
    have e2 : at' 0 f.b ((q + i : Nat) : Int) = f.b[q + i] := by simp only [at', Int.toNat_natCast]; simp [List.getD, hqi]
    rw [nor_Flash_Program_l0, dec_t (by omega), cond_true, chk_t (by omega), hw, chk_t hc, w64 ((i : Int) + 1) (by omega), hn, ih k (i + 1) (by omega) (by omega), hd, hd2, e1, e2, okB]
    have hne : ((b[i] &&& ~~~f.b[q + i]) != 0) = !((b[i] &&& ~~~f.b[q + i]) == 0) := rfl
    rw [hne]
    cases ((b[i] &&& ~~~f.b[q + i]) == 0) <;> rfl
/-- Program, of a place that is no number below 0. -/
def progS (f : FlashS) (q : Nat) (b : List UInt8) : Int × FlashS :=
  bif f.off then (4, f) else bif decide (q + b.length ≤ f.b.length) then (bif okB (f.b.drop q) b then workS f q b else (3, f)) else (2, f)
theorem prog_eq (f : FlashS) (h : WfF f) (q : Nat) (b : List UInt8) (hq : q ≤ 1000000000) (hb : b.length ≤ 1000000000) : nor_Flash_Program f (q : Int) b = some (progS f q b) := by
  obtain ⟨F, hF⟩ : ∃ F, F = Fuel := ⟨_, rfl⟩
  have hf : 2000000000 < F := by rw [hF]; exact fuel_ge (by omega)
  have h1 := h.len
  have h2 := h.small
  have hoff : nor_Flash_Off f = some f.off := rfl
  unfold nor_Flash_Program progS
  rw [hoff, Option.bind_some]
  cases f.off with
  | true => rfl
  | false =>
    rw [cond_false, cond_false, within_eq f h _ _ (by omega) (by omega), Option.bind_some, ← hF]
    by_cases hin : q + b.length ≤ f.b.length
    · rw [dec_t (show 0 ≤ (q : Int) ∧ (q : Int) + (b.length : Int) ≤ f.b.length by omega), dec_t hin, Bool.not_true, cond_false, cond_true, jn_def]
      have := prog_l f q b (fun _ => (nor_Flash_work f (q : Int) b).bind fun r12 => some (r12.1, r12.2)) hin (by omega) b.length F 0 (by omega) (by omega)
      simp only [Nat.add_zero, List.drop_zero] at this
      have h0 : ((0 : Nat) : Int) = 0 := rfl
      rw [h0] at this
      rw [this, work_eq f q b hin (by omega) h.cut, Option.bind_some]
      cases okB (f.b.drop q) b <;> rfl
    · rw [dec_f (show ¬ (0 ≤ (q : Int) ∧ (q : Int) + (b.length : Int) ≤ f.b.length) by omega), dec_f hin]
      rfl
theorem progS_ok (f : FlashS) (q : Nat) (b : List UInt8) (hoff : f.off = false) (hcut : f.cut < 0) (hl : q + b.length ≤ f.b.length) (hok : okB (f.b.drop q) b = true) :
    progS f q b = (0, ⟨f.b.take q ++ (b ++ f.b.drop (q + b.length)), f.wear, f.cut, f.mask, f.off, wrap64 (f.ops + 1)⟩) := by
  have h0 : (f.cut == 0) = false := by simp; omega
  unfold progS workS
  rw [hoff, cond_false, dec_t hl, cond_true, hok, cond_true, h0, cond_false, if_neg (by omega), mixL_plain _ _ _ _ _ (by omega)]
  rfl
end Go.Proofs.YtpdoioeckiiegaaGreatDoor.Wl
