/- Plain law: ManifestTorn. -/
import Derived.Test.YtfllkhijdijleaaDoorWlL2
import Derived.Test.YtfllkhijdijleaaDoorWlAl
set_option linter.unusedSimpArgs false
set_option linter.unusedVariables false
namespace Go.Proofs.YtfllkhijdijleaaDoor.Wl
open Go.RowKit Go.Proofs
theorem raw_total (w : WriterS) (b : List UInt8) (n : Int) (hn : 0 ≤ n ∧ n ≤ 1000) (hw : w.b.length ≤ 1000000) : ∃ y, field_Writer_Raw w b n = some y ∧ y.b.length = w.b.length + n.toNat := by
  have e : (if 0 < (if 1000 < n then 1000 else n) then (if 1000 < n then 1000 else n) else 0) = n := by
    rw [if_neg (show ¬ (1000 < n) by omega)]
    split <;> omega
  have hl : (cpy (List.replicate n.toNat (0 : UInt8)) b).length = n.toNat := by rw [cpy_len, List.length_replicate]
  unfold field_Writer_Raw
  rw [e, chk_t (by omega), chk_t (by simp), chk_t hl, chk_t (by omega)]
  exact ⟨_, rfl, by rw [List.length_append, hl]⟩
theorem num_l (v : Int) (J : List UInt8 → Option WriterS) : ∀ (n k : Nat) (x : List UInt8) (i : Int), i + 1 = n → n < k → n ≤ 8 → x.length + n ≤ 1000000 → ∃ y : List UInt8, y.length = x.length + n ∧ field_Writer_Num_l0 v J k (i, x) = J y := by
  intro n
  induction n with
  | zero =>
    intro k x i h hk h8 hx
    obtain ⟨k, rfl⟩ : ∃ m, k = m + 1 := ⟨k - 1, by omega⟩
    exact ⟨x, rfl, by rw [field_Writer_Num_l0]; dsimp only; rw [dec_f (by omega), cond_false]⟩
  | succ n ih =>
    intro k x i h hk h8 hx
    obtain ⟨k, rfl⟩ : ∃ m, k = m + 1 := ⟨k - 1, by omega⟩
    rw [field_Writer_Num_l0]
    dsimp only
    rw [dec_t (by omega), cond_true, w64 (8 * i) (by omega), chk_t (dec_f (by omega)), chk_t (by simp; omega), w64 (i - 1) (by omega)]
    obtain ⟨y, h1, h2⟩ := ih k (x ++ [(shr64 ((UInt64.ofInt v) : UInt64) (8 * i : Int).toNat).toUInt8]) (i - 1) (by omega) (by omega) (by omega) (by simp; omega)
    exact ⟨y, by rw [h1]; simp; omega, h2⟩
theorem num_total (w : WriterS) (v n : Int) (hn : 0 ≤ n ∧ n ≤ 8) (hw : w.b.length ≤ 100000) : ∃ y, field_Writer_Num w v n = some y ∧ y.b.length = w.b.length + n.toNat := by
  obtain ⟨F, hF⟩ : ∃ F, F = Fuel := ⟨_, rfl⟩
  have hf : 200000 < F := by rw [hF]; exact fuel_ge (by omega)
  have e : (if 0 < (if 8 < n then 8 else n) then (if 8 < n then 8 else n) else 0) = n := by
    rw [if_neg (show ¬ (8 < n) by omega)]
    split <;> omega
  unfold field_Writer_Num
  rw [← hF, e, w64 (n - 1) (by omega)]
  simp only [jn]
  obtain ⟨y, h1, h2⟩ := num_l v (fun x4 => some (⟨x4⟩ : WriterS)) n.toNat F w.b (n - 1) (by omega) (by omega) (by omega) (by omega)
  exact ⟨⟨y⟩, h2, h1⟩
theorem body_total (m : Mani) (hm : m.Name.length ≤ 100) : ∃ y, manifest_Body m = some y ∧ y.length = 60 := by
  unfold manifest_Body
  obtain ⟨w1, e1, l1⟩ := raw_total ⟨[]⟩ [87, 76, 77, 49] 4 (by omega) (by simp)
  rw [e1, Option.bind_some, chk_t (by omega)]
  simp at l1
  obtain ⟨w2, e2, l2⟩ := raw_total ⟨w1.b⟩ m.Name 16 (by omega) (by simp; omega)
  rw [e2, Option.bind_some]
  simp [l1] at l2
  obtain ⟨w3, e3, l3⟩ := num_total ⟨w2.b⟩ m.Image.Version 4 (by omega) (by simp; omega)
  rw [e3, Option.bind_some]
  simp [l2] at l3
  obtain ⟨w4, e4, l4⟩ := num_total ⟨w3.b⟩ m.Image.Size 4 (by omega) (by simp; omega)
  rw [e4, Option.bind_some]
  simp [l3] at l4
  obtain ⟨w5, e5, l5⟩ := raw_total ⟨w4.b⟩ m.Image.Digest.l 32 (by omega) (by simp; omega)
  rw [e5, Option.bind_some]
  simp [l4] at l5
  have e6 : field_Writer_Bytes ⟨w5.b⟩ = some w5.b := by unfold field_Writer_Bytes; rw [clone_eq _ (by simp; omega), Option.bind_some]
  rw [e6, Option.bind_some]
  exact ⟨_, rfl, l5⟩
theorem bytes_total (key : List UInt8) (m : Mani) (hk : key.length ≤ 1000) (hm : m.Name.length ≤ 100) : ∃ y, manifest_Bytes key m = some y ∧ y.length = 92 := by
  unfold manifest_Bytes
  obtain ⟨b, e1, l1⟩ := body_total m hm
  obtain ⟨t, e2⟩ := tag_total key b (by omega) (by omega)
  rw [e1, Option.bind_some, e2, Option.bind_some, chk_t (by rw [t.len]; omega)]
  exact ⟨_, rfl, by rw [List.length_append, l1, t.len]⟩
theorem read_short (b : List UInt8) (h : b.length ≠ 92) : manifest_Read b = some (Mani.zero, [], 6) := by
  unfold manifest_Read
  have : ((b.length : Int) != 92) = true := by simp; omega
  rw [this, cond_true]
theorem signed_short (key b : List UInt8) (h : b.length ≠ 92) : manifest_Signed key b = some false := by
  unfold manifest_Signed
  rw [read_short b h, Option.bind_some]
  rfl
theorem num12 (e : Int) : law12_num e = some e := rfl
theorem torn_plain (key : List UInt8) (m : Mani) (n : Int) : law12_ManifestTorn key m n = some true := by
  unfold law12_ManifestTorn
  rw [alive12, Option.bind_some]
  simp only [bnd, jn, Bool.not_true, cond_false]
  by_cases h1 : (key.length : Int) > 200
  · simp [h1]
  by_cases h2 : (m.Name.length : Int) > 100
  · simp [h1, h2]
  by_cases h3 : n < 0
  · simp [h1, h2, h3]
  obtain ⟨b, e1, l1⟩ := bytes_total key m (by omega) (by omega)
  rw [dec_f h1, dec_f h2, dec_f h3]
  simp only [cond_false]
  rw [e1, Option.bind_some]
  have hz : ((b.length : Int) == 0) = false := by rw [l1]; rfl
  have hmod : 0 ≤ n.tmod (b.length : Int) ∧ n.tmod (b.length : Int) < 92 := by
    rw [Int.tmod_eq_emod_of_nonneg (by omega), l1]; omega
  have hs : (slc b 0 (n.tmod (b.length : Int))).length ≠ 92 := by
    have := slc_len b 0 (n.tmod (b.length : Int)) (by omega)
    omega
  rw [hz, cond_false, chk_t rfl, chk_t (by omega), read_short _ hs, Option.bind_some, chk_t (by simp; omega), chk_t (by simp; omega), read_short _ (by simp; omega), Option.bind_some]
  simp only [num12, Option.bind_some]
  have h6 : ((6 : Int) == 6) = true := rfl
  rw [h6, cond_true, cond_true, chk_t trivial, chk_t (by omega), signed_short key _ hs]
  rfl
end Go.Proofs.YtfllkhijdijleaaDoor.Wl
