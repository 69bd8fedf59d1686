/- Plain laws: the streams, the keyed sum. -/
import Derived.Test.YtfllkhijdijleaaDoorWlL1
set_option linter.unusedSimpArgs false
set_option linter.unusedVariables false
namespace Go.Proofs.YtfllkhijdijleaaDoor.Wl
open Go.RowKit Go.Proofs
/-- The lengths of several lists together. -/
def tot (xs : List (List UInt8)) : Nat := (xs.map List.length).sum
theorem at_len (xs : List (List UInt8)) (i : Int) (h : 0 ≤ i ∧ i < xs.length) : tot (xs.drop i.toNat) = (at' [] xs i).length + tot (xs.drop (i + 1).toNat) := by
  have h1 : i.toNat < xs.length := by omega
  have h2 : xs.drop i.toNat = xs[i.toNat] :: xs.drop (i.toNat + 1) := List.drop_eq_getElem_cons h1
  have ha : at' [] xs i = xs[i.toNat] := by simp [at', List.getD, h1]
  rw [h2, show (i + 1).toNat = i.toNat + 1 by omega, ha]
  rfl
theorem flat_drop (xs : List (List UInt8)) (i : Int) (h : 0 ≤ i ∧ i < xs.length) : (xs.drop i.toNat).flatten = at' [] xs i ++ (xs.drop (i + 1).toNat).flatten := by
  have h1 : i.toNat < xs.length := by omega
  have h2 : xs.drop i.toNat = xs[i.toNat] :: xs.drop (i.toNat + 1) := List.drop_eq_getElem_cons h1
  have ha : at' [] xs i = xs[i.toNat] := by simp [at', List.getD, h1]
  rw [h2, show (i + 1).toNat = i.toNat + 1 by omega, ha]
  rfl
theorem concat_l1 (xs : List (List UInt8)) (hx : xs.length < 1000000) (J : Int → Option (List UInt8)) : ∀ (n k : Nat) (s i : Int), i + n = xs.length → 0 ≤ i → n < k → 0 ≤ s → s + tot (xs.drop i.toNat) ≤ 68719476736 → slices_Concat_l1 xs J k (s, i) = J (s + tot (xs.drop i.toNat)) := by
  intro n
  induction n with
  | zero =>
    intro k s i h hi hk hs ht
    obtain ⟨k, rfl⟩ : ∃ m, k = m + 1 := ⟨k - 1, by omega⟩
    rw [slices_Concat_l1]; dsimp only; rw [dec_f (by omega), cond_false, List.drop_of_length_le (by omega)]
    simp [tot]
  | succ n ih =>
    intro k s i h hi hk hs ht
    obtain ⟨k, rfl⟩ : ∃ m, k = m + 1 := ⟨k - 1, by omega⟩
    have ha := at_len xs i (by omega)
    rw [slices_Concat_l1]
    dsimp only
    rw [dec_t (by omega), cond_true, chk_t (by omega), w64 (s + _) (by omega), dec_f (by omega), cond_false, w64 (i + 1) (by omega), ih k _ (i + 1) (by omega) (by omega) (by omega) (by omega) (by omega), ha]
    congr 1
    omega
theorem concat_l0 (xs : List (List UInt8)) (hx : xs.length < 1000000) (J : List UInt8 → Option (List UInt8)) : ∀ (n k : Nat) (s : List UInt8) (i : Int), i + n = xs.length → 0 ≤ i → n < k → s.length + tot (xs.drop i.toNat) ≤ 68719476736 → slices_Concat_l0 xs J k (s, i) = J (s ++ (xs.drop i.toNat).flatten) := by
  intro n
  induction n with
  | zero =>
    intro k s i h hi hk ht
    obtain ⟨k, rfl⟩ : ∃ m, k = m + 1 := ⟨k - 1, by omega⟩
    rw [slices_Concat_l0]; dsimp only; rw [dec_f (by omega), cond_false, List.drop_of_length_le (by omega)]
    simp
  | succ n ih =>
    intro k s i h hi hk ht
    obtain ⟨k, rfl⟩ : ∃ m, k = m + 1 := ⟨k - 1, by omega⟩
    have ha := at_len xs i (by omega)
    rw [slices_Concat_l0]
    dsimp only
    rw [dec_t (by omega), cond_true, chk_t (by omega), chk_t (by omega), w64 (i + 1) (by omega), ih k _ (i + 1) (by omega) (by omega) (by omega) (by rw [List.length_append]; omega), flat_drop xs i (by omega), List.append_assoc]
theorem concat_eq (xs : List (List UInt8)) (hx : xs.length < 1000000) (ht : tot xs ≤ 68719476736) : slices_Concat xs = some xs.flatten := by
  obtain ⟨F, hF⟩ : ∃ F, F = Fuel := ⟨_, rfl⟩
  have hb : xs.length < F := by rw [hF]; exact fuel_ge (by omega)
  unfold slices_Concat
  rw [← hF]
  simp only [jn]
  rw [concat_l1 xs hx _ xs.length F 0 0 (by omega) (by omega) hb (by omega) (by show (0 : Int) + ((tot xs : Nat) : Int) ≤ 68719476736; omega)]
  have hg : slices_Grow (0 + tot (xs.drop (0 : Int).toNat)) = some [] := by
    unfold slices_Grow
    exact chk_t (by simp; omega)
  rw [hg, Option.bind_some, concat_l0 xs hx _ xs.length F [] 0 (by omega) (by omega) hb (by simpa using ht)]
  simp
theorem long_total (n : UInt64) : ∃ y, sha_long n = some y ∧ y.length = 8 := by
  unfold sha_long
  obtain ⟨a, ha, la⟩ : ∃ y, turn_Bytes ((shr64 (n : UInt64) (32 : UInt64).toNat).toUInt32) = some y ∧ y.length = 4 := ⟨_, rfl, rfl⟩
  obtain ⟨b, hb, lb⟩ : ∃ y, turn_Bytes n.toUInt32 = some y ∧ y.length = 4 := ⟨_, rfl, rfl⟩
  rw [ha, Option.bind_some, hb, Option.bind_some, concat_eq [a, b] (by simp) (by simp [tot, la, lb]), Option.bind_some]
  exact ⟨_, rfl, by simp [la, lb]⟩
theorem clone_eq (xs : List UInt8) (h : xs.length ≤ 68719476736) : slices_Clone xs = some xs := chk_t h
theorem write_l (J : (List UInt8 × Arr UInt32 8) → Option StreamS) : ∀ (n k : Nat) (x : List UInt8) (h : Arr UInt32 8), x.length ≤ n → n < k → n < 1000000 → ∃ y z, y.length < 64 ∧ sha_Stream_Write_l0 J k (x, h) = J (y, z) := by
  intro n
  induction n using Nat.strongRecOn with
  | ind n ih =>
    intro k x h hx hk hn
    obtain ⟨k, rfl⟩ : ∃ m, k = m + 1 := ⟨k - 1, by omega⟩
    rw [sha_Stream_Write_l0]
    dsimp only
    by_cases h64 : (x.length : Int) ≥ 64
    · have l1 := slc_len x 0 64 (by omega)
      have l2 := slc_len x 64 (x.length : Int) (by omega)
      obtain ⟨y, hy⟩ := mix_total h (slc x 0 64) (by omega)
      rw [dec_t h64, cond_true, chk_t (by omega), hy, Option.bind_some, chk_t (by omega)]
      exact ih (n - 64) (by omega) k _ y (by omega) (by omega) (by omega)
    · rw [dec_f h64, cond_false]
      exact ⟨x, h, by omega, rfl⟩
theorem write_total (s : StreamS) (b : List UInt8) (hs : s.rest.length < 64) (hb : b.length < 100000) : ∃ y, sha_Stream_Write s b = some y ∧ y.rest.length < 64 := by
  obtain ⟨F, hF⟩ : ∃ F, F = Fuel := ⟨_, rfl⟩
  have hf : 200000 < F := by rw [hF]; exact fuel_ge (by omega)
  unfold sha_Stream_Write
  rw [← hF, concat_eq [s.rest, b] (by simp) (by simp [tot]; omega), Option.bind_some]
  simp only [jn]
  obtain ⟨y, z, hl, he⟩ := write_l (fun x => (slices_Clone x.1).bind fun r13 => some (⟨x.2, (s.count + (UInt64.ofInt (b.length : Int))), r13⟩ : StreamS)) 200000 F [s.rest, b].flatten s.h (by simp; omega) hf (by omega)
  rw [he]
  dsimp only
  rw [clone_eq y (by omega), Option.bind_some]
  exact ⟨_, rfl, hl⟩
theorem sum_l1 (J : List UInt8 → Option (Arr UInt8 32)) : ∀ (n k : Nat) (x : List UInt8), (x.length + n) % 64 = 56 → n < k → x.length + n < 1000000 → ∃ y : List UInt8, y.length % 64 = 56 ∧ y.length ≤ x.length + n ∧ sha_Stream_Sum_l1 J k x = J y := by
  intro n
  induction n with
  | zero =>
    intro k x h hk hl
    obtain ⟨k, rfl⟩ : ∃ m, k = m + 1 := ⟨k - 1, by omega⟩
    rw [sha_Stream_Sum_l1]
    have : (((x.length : Int).tmod 64) != 56) = false := by
      have h1 : ((x.length : Int).tmod 64) = 56 := by rw [Int.tmod_eq_emod_of_nonneg (by omega)]; omega
      rw [h1]; rfl
    rw [this, cond_false]
    exact ⟨x, by omega, by omega, rfl⟩
  | succ n ih =>
    intro k x h hk hl
    obtain ⟨k, rfl⟩ : ∃ m, k = m + 1 := ⟨k - 1, by omega⟩
    rw [sha_Stream_Sum_l1]
    cases hc : (((x.length : Int).tmod 64) != 56) with
    | false =>
      rw [cond_false]
      have h1 : ((x.length : Int).tmod 64) = 56 := by simpa using hc
      rw [Int.tmod_eq_emod_of_nonneg (by omega)] at h1
      exact ⟨x, by omega, by omega, rfl⟩
    | true =>
      have hl1 : (x ++ ([0] : List UInt8)).length = x.length + 1 := by simp
      rw [cond_true, chk_t (by simp; omega)]
      obtain ⟨y, h1, h2, h3⟩ := ih k (x ++ [0]) (by rw [hl1]; omega) (by omega) (by rw [hl1]; omega)
      exact ⟨y, h1, by omega, h3⟩
theorem sum_l0 (J : Arr UInt32 8 → Option (Arr UInt8 32)) : ∀ (n k : Nat) (x : List UInt8) (h : Arr UInt32 8), x.length ≤ n → x.length % 64 = 0 → n < k → n < 10000000 → ∃ z, sha_Stream_Sum_l0 J k (x, h) = J z := by
  intro n
  induction n using Nat.strongRecOn with
  | ind n ih =>
    intro k x h hx hm hk hn
    obtain ⟨k, rfl⟩ : ∃ m, k = m + 1 := ⟨k - 1, by omega⟩
    rw [sha_Stream_Sum_l0]
    dsimp only
    by_cases h0 : (x.length : Int) > 0
    · have l1 := slc_len x 0 64 (by omega)
      have l2 := slc_len x 64 (x.length : Int) (by omega)
      obtain ⟨y, hy⟩ := mix_total h (slc x 0 64) (by omega)
      rw [dec_t h0, cond_true, chk_t (by omega), hy, Option.bind_some, chk_t (by omega)]
      exact ih (n - 64) (by omega) k _ y (by omega) (by omega) (by omega) (by omega)
    · rw [dec_f h0, cond_false]
      exact ⟨h, rfl⟩
theorem sum_total (s : StreamS) (hs : s.rest.length < 64) : ∃ y, sha_Stream_Sum s = some y := by
  obtain ⟨F, hF⟩ : ∃ F, F = Fuel := ⟨_, rfl⟩
  have hf : 200000 < F := by rw [hF]; exact fuel_ge (by omega)
  unfold sha_Stream_Sum
  rw [← hF, clone_eq s.rest (by omega), Option.bind_some, chk_t (by simp; omega)]
  simp only [jn]
  have hl : (s.rest ++ ([128] : List UInt8)).length = s.rest.length + 1 := by simp
  obtain ⟨n, hn1, hn2⟩ : ∃ n, (s.rest.length + 1 + n) % 64 = 56 ∧ n < 64 := ⟨(120 - (s.rest.length + 1) % 64) % 64, by omega, by omega⟩
  obtain ⟨y, h1, h2, h3⟩ := sum_l1 (fun x13 => (sha_long (s.count * (8 : UInt64))).bind fun r16 => chk (x13.length + r16.length ≤ 68719476736) <| sha_Stream_Sum_l0 (fun x24 => (sha_told x24).bind fun r26 => chk (32 ≤ r26.length) <| some (Arr.of 0 32 r26)) F ((x13 ++ r16), s.h)) n F (s.rest ++ [128]) (by rw [hl]; omega) (by omega) (by rw [hl]; omega)
  rw [h3]
  rw [hl] at h2
  obtain ⟨l, e1, e2⟩ := long_total (s.count * 8)
  rw [e1, Option.bind_some, chk_t (by omega)]
  obtain ⟨z, hz⟩ := sum_l0 (fun x24 => (sha_told x24).bind fun r26 => chk (32 ≤ r26.length) <| some (Arr.of 0 32 r26)) 100000 F (y ++ l) s.h (by rw [List.length_append]; omega) (by rw [List.length_append]; omega) (by omega) (by omega)
  rw [hz]
  obtain ⟨t, t1, t2⟩ := told_total z
  rw [t1, Option.bind_some, chk_t (by omega)]
  exact ⟨_, rfl⟩
theorem new_eq : ∃ h, sha_New = some ⟨h, 0, []⟩ := ⟨_, rfl⟩
theorem Sum_total (b : List UInt8) (hb : b.length < 100000) : ∃ y, sha_Sum b = some y := by
  unfold sha_Sum
  obtain ⟨h, hh⟩ := new_eq
  obtain ⟨w, h1, h2⟩ := write_total ⟨h, 0, []⟩ b (by simp) hb
  obtain ⟨y, h3⟩ := sum_total ⟨w.h, w.count, w.rest⟩ h2
  rw [hh, Option.bind_some, h1, Option.bind_some, h3, Option.bind_some]
  exact ⟨y, rfl⟩
theorem pad_l (c : UInt8) (J : List UInt8 → Option (List UInt8)) : ∀ (n k : Nat) (x : List UInt8) (i : Int), i + n = 64 → 0 ≤ i → n < k → x.length = 64 → ∃ y : List UInt8, y.length = 64 ∧ hmac_pad_l0 c J k (i, x) = J y := by
  intro n
  induction n with
  | zero =>
    intro k x i h hi hk hx
    obtain ⟨k, rfl⟩ : ∃ m, k = m + 1 := ⟨k - 1, by omega⟩
    exact ⟨x, hx, by rw [hmac_pad_l0]; dsimp only; rw [dec_f (by omega), cond_false]⟩
  | succ n ih =>
    intro k x i h hi hk hx
    obtain ⟨k, rfl⟩ : ∃ m, k = m + 1 := ⟨k - 1, by omega⟩
    rw [hmac_pad_l0]
    dsimp only
    rw [dec_t (by omega), cond_true, chk_t (by omega), chk_t (by omega), w64 (i + 1) (by omega)]
    exact ih k _ (i + 1) (by omega) (by omega) (by omega) (by rw [List.length_set]; exact hx)
theorem pad_total (key : List UInt8) (c : UInt8) (hk : key.length < 100000) : ∃ y, hmac_pad key c = some y ∧ y.length = 64 := by
  obtain ⟨F, hF⟩ : ∃ F, F = Fuel := ⟨_, rfl⟩
  have hf : 200000 < F := by rw [hF]; exact fuel_ge (by omega)
  unfold hmac_pad
  rw [← hF]
  simp only [jn]
  have go : ∀ x5 : List UInt8, ∃ y, (chk (0 ≤ (64 : Int) ∧ (64 : Int) ≤ 68719476736) <| chk ((List.replicate (64 : Int).toNat (0 : UInt8)).length = (64 : Int).toNat) <| hmac_pad_l0 c (fun x11 => chk (x11.length = (64 : Int).toNat) <| some x11) F (0, (cpy (List.replicate (64 : Int).toNat (0 : UInt8)) x5))) = some y ∧ y.length = 64 := by
    intro x5
    rw [chk_t (by omega), chk_t (by simp)]
    obtain ⟨y, hy, he⟩ := pad_l c (fun x11 => chk (x11.length = (64 : Int).toNat) <| some x11) 64 F (cpy (List.replicate (64 : Int).toNat (0 : UInt8)) x5) 0 (by omega) (by omega) (by omega) (by rw [cpy_len, List.length_replicate]; rfl)
    exact ⟨y, by rw [he]; exact chk_t (by rw [hy]; rfl), hy⟩
  by_cases h64 : (key.length : Int) > 64
  · obtain ⟨d, hd⟩ := Sum_total key hk
    rw [dec_t h64, cond_true, hd, Option.bind_some]
    exact go d.l
  · rw [dec_f h64, cond_false]
    exact go key
theorem tag_total (key b : List UInt8) (hk : key.length < 100000) (hb : b.length < 100000) : ∃ y, hmac_Tag key b = some y := by
  unfold hmac_Tag
  obtain ⟨h, hh⟩ := new_eq
  obtain ⟨p1, hp1, l1⟩ := pad_total key 54 hk
  obtain ⟨p2, hp2, l2⟩ := pad_total key 92 hk
  rw [hh, Option.bind_some, Option.bind_some, hp1, Option.bind_some]
  obtain ⟨w1, e1, r1⟩ := write_total ⟨h, 0, []⟩ p1 (by simp) (by omega)
  rw [e1, Option.bind_some]
  obtain ⟨w2, e2, r2⟩ := write_total ⟨w1.h, w1.count, w1.rest⟩ b r1 hb
  rw [e2, Option.bind_some]
  obtain ⟨s, e3⟩ := sum_total ⟨w2.h, w2.count, w2.rest⟩ r2
  rw [e3, Option.bind_some, hp2, Option.bind_some]
  obtain ⟨w3, e4, r3⟩ := write_total ⟨h, 0, []⟩ p2 (by simp) (by omega)
  rw [e4, Option.bind_some]
  obtain ⟨w4, e5, r4⟩ := write_total ⟨w3.h, w3.count, w3.rest⟩ s.l r3 (by rw [s.len]; omega)
  rw [e5, Option.bind_some]
  obtain ⟨t, e6⟩ := sum_total ⟨w4.h, w4.count, w4.rest⟩ r4
  rw [e6, Option.bind_some]
  exact ⟨t, rfl⟩
end Go.Proofs.YtfllkhijdijleaaDoor.Wl
