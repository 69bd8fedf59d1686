/- Plain law: ModelRights. -/
import Derived.Test.YtphbbnlbfbhcaaaDoorWlX
set_option linter.unusedSimpArgs false
set_option linter.unusedVariables false
set_option maxRecDepth 10000
namespace Go.Proofs.YtphbbnlbfbhcaaaDoor.Wl
open Go.RowKit Go.Proofs
theorem chk_t {β : Type} {c : Prop} [Decidable c] {x : Option β} (h : c) : chk c x = x := if_pos h
theorem bnd_def {α β : Type} (x : α) (f : α → Option β) : bnd x f = f x := rfl
theorem jn_def {α β : Type} (R : α → Option β) (F : (α → Option β) → Option β) : jn R F = F R := rfl
theorem optc_none {α β : Type} (a : Option β) (f : α → Option β) : optc none a f = a := rfl
theorem optc_some {α β : Type} (x : α) (a : Option β) (f : α → Option β) : optc (some x) a f = f x := rfl
/-- 'and', as the walk tells it. -/
theorem and_def {β : Type} (b c : Bool) (F : Bool → Option β) : (bif b then F c else F false) = F (b && c) := by cases b <;> rfl
theorem or_def {β : Type} (b c : Bool) (F : Bool → Option β) : (bif b then F true else F c) = F (b || c) := by cases b <;> rfl
theorem may_eq (c : CapS) (k : Int) : caps_May c k = some (decide (k ≥ 1) && decide (k ≤ 9) && (iand (ishr c.Rights k) 1 == 1)) := by
  unfold caps_May
  simp only [bnd_def, jn_def, and_def]
  by_cases h1 : k ≥ 1 <;> by_cases h2 : k ≤ 9
  · rw [chk_t (by simp; omega)]
    simp only [and_def]
  all_goals simp [h1, h2]
def d24 : Arr UInt8 32 := (sha_Sum [120]).getD (Arr.zero 0 32)
def d24n : Arr UInt8 32 := (sha_Sum []).getD (Arr.zero 0 32)
theorem d24_eq : sha_Sum [120] = some d24 := by kernel_rfl
theorem d24n_eq : sha_Sum [] = some d24n := by kernel_rfl
def meta24 : MetaS := { (MetaS.zero : MetaS) with Have := (Arr.set MetaS.zero.Have 0 (⟨1, 1, d24⟩ : Img)) }
def M24 (rights : Int) : ModelS := ⟨⟨[97], [107], 1, 0, 1, rights, [120]⟩, meta24, cpy (List.replicate 320 255) [120], List.replicate 320 255⟩
theorem valid_a : names_Valid [97] = some true := by kernel_rfl
theorem rep24 : slices_Repeat [255] (wrap64 (1 * 320)) = some (List.replicate 320 255) := by kernel_rfl
theorem new24 (rights : Int) (h0 : 0 ≤ rights) (h1 : rights ≤ 1023) : model_New ⟨[97], [107], 1, 0, 1, rights, [120]⟩ = some (some (M24 rights)) := by
  have hr : caps_Right ⟨[97], [107], 1, 0, 1, rights, [120]⟩ = some true := by
    unfold caps_Right
    simp only [bnd_def, jn_def, and_def, valid_a, Option.bind_some]
    have e1 : decide (rights ≥ 0) = true := by simpa using h0
    have e2 : decide (rights ≤ 1023) = true := by simpa using h1
    rw [e1, e2]
    simp [wrap64]
  have hc : slices_Clone [107] = some [107] := by kernel_rfl
  unfold model_New
  dsimp only
  rw [hr, Option.bind_some, Bool.not_true, cond_false, hc, Option.bind_some, rep24, Option.bind_some, Option.bind_some, chk_t rfl, d24_eq, Option.bind_some, bnd_def, chk_t (by rw [cpy_len])]
  rfl
theorem fact24 (rights k : Int) : model_Model_fact (M24 rights) ⟨k, 0, []⟩ = some ⟨false, false, d24n, false⟩ := by kernel_rfl
def ok24 (k : Int) : Bool := match update_Do meta24 ⟨k, 0, []⟩ ⟨false, false, d24n, false⟩ 1 with
  | some r => (r.2.Err != 14) && !((r.2.Err == 0) && (k == 2))
  | none => false
theorem ok24_1 : ok24 1 = true := by kernel_rfl
theorem ok24_2 : ok24 2 = true := by kernel_rfl
theorem ok24_3 : ok24 3 = true := by kernel_rfl
theorem ok24_4 : ok24 4 = true := by kernel_rfl
theorem ok24_5 : ok24 5 = true := by kernel_rfl
theorem ok24_6 : ok24 6 = true := by kernel_rfl
theorem ok24_7 : ok24 7 = true := by kernel_rfl
theorem ok24_8 : ok24 8 = true := by kernel_rfl
theorem ok24_9 : ok24 9 = true := by kernel_rfl
theorem ok24_all (k : Int) (h1 : 1 ≤ k) (h2 : k ≤ 9) : ok24 k = true := by
  have : k = 1 ∨ k = 2 ∨ k = 3 ∨ k = 4 ∨ k = 5 ∨ k = 6 ∨ k = 7 ∨ k = 8 ∨ k = 9 := by omega
  rcases this with rfl | rfl | rfl | rfl | rfl | rfl | rfl | rfl | rfl
  · exact ok24_1
  · exact ok24_2
  · exact ok24_3
  · exact ok24_4
  · exact ok24_5
  · exact ok24_6
  · exact ok24_7
  · exact ok24_8
  · exact ok24_9
theorem sh24_1 : ((UInt64.ofInt (iand 1 15)) : UInt64).toNat = 1 := by kernel_rfl
theorem sh24_2 : ((UInt64.ofInt (iand 2 15)) : UInt64).toNat = 2 := by kernel_rfl
theorem sh24_3 : ((UInt64.ofInt (iand 3 15)) : UInt64).toNat = 3 := by kernel_rfl
theorem sh24_4 : ((UInt64.ofInt (iand 4 15)) : UInt64).toNat = 4 := by kernel_rfl
theorem sh24_5 : ((UInt64.ofInt (iand 5 15)) : UInt64).toNat = 5 := by kernel_rfl
theorem sh24_6 : ((UInt64.ofInt (iand 6 15)) : UInt64).toNat = 6 := by kernel_rfl
theorem sh24_7 : ((UInt64.ofInt (iand 7 15)) : UInt64).toNat = 7 := by kernel_rfl
theorem sh24_8 : ((UInt64.ofInt (iand 8 15)) : UInt64).toNat = 8 := by kernel_rfl
theorem sh24_9 : ((UInt64.ofInt (iand 9 15)) : UInt64).toNat = 9 := by kernel_rfl
theorem shift24 (k : Int) (h1 : 1 ≤ k) (h2 : k ≤ 9) : ((UInt64.ofInt (iand k 15)) : UInt64).toNat = k := by
  have : k = 1 ∨ k = 2 ∨ k = 3 ∨ k = 4 ∨ k = 5 ∨ k = 6 ∨ k = 7 ∨ k = 8 ∨ k = 9 := by omega
  rcases this with rfl | rfl | rfl | rfl | rfl | rfl | rfl | rfl | rfl
  · exact congrArg Int.ofNat sh24_1
  · exact congrArg Int.ofNat sh24_2
  · exact congrArg Int.ofNat sh24_3
  · exact congrArg Int.ofNat sh24_4
  · exact congrArg Int.ofNat sh24_5
  · exact congrArg Int.ofNat sh24_6
  · exact congrArg Int.ofNat sh24_7
  · exact congrArg Int.ofNat sh24_8
  · exact congrArg Int.ofNat sh24_9
theorem alive24 : law24_alive = some true := by kernel_rfl
theorem do24 (rights k : Int) : ∃ r, model_Model_Do (M24 rights) ⟨k, 0, []⟩ = some r ∧ (r.1.Err == 14) = !(decide (k ≥ 1) && decide (k ≤ 9) && (iand (ishr rights k) 1 == 1)) := by
  unfold model_Model_Do
  rw [may_eq, Option.bind_some]
  have hq : (M24 rights).c.Rights = rights := rfl
  simp only [hq]
  generalize hb : (decide (k ≥ 1) && decide (k ≤ 9) && (iand (ishr rights k) 1 == 1)) = b
  cases b with
  | false => exact ⟨(⟨14, 0, 0⟩, M24 rights), rfl, rfl⟩
  | true =>
    simp only [Bool.and_eq_true, decide_eq_true_eq] at hb
    have hok := ok24_all k hb.1.1 hb.1.2
    rw [Bool.not_true, cond_false, fact24, Option.bind_some]
    unfold ok24 at hok
    have hm : (M24 rights).m = meta24 := rfl
    have hq : (M24 rights).c.Quota = 1 := rfl
    rw [hm, hq]
    split at hok
    · rename_i r hr
      simp only [Bool.and_eq_true, Bool.not_eq_true', bne_iff_ne, ne_eq] at hok
      rw [hr, Option.bind_some]
      simp only [bnd_def, jn_def, and_def]
      rw [hok.2, cond_false]
      exact ⟨_, rfl, by simpa using hok.1⟩
    · cases hok
theorem rights_plain (rights kind : Int) : law24_ModelRights rights kind = some true := by
  unfold law24_ModelRights
  rw [alive24, Option.bind_some]
  simp only [bnd_def, jn_def, Bool.not_true, cond_false]
  by_cases h0 : rights < 0
  · simp [h0]
  by_cases h1 : rights > 1023
  · simp [h0, h1]
  have e0 : decide (rights < 0) = false := decide_eq_false h0
  have e1 : decide (rights > 1023) = false := decide_eq_false h1
  rw [e0, e1]
  simp only [cond_false]
  rw [new24 rights (by omega) (by omega), Option.bind_some, optc_some]
  obtain ⟨r, hr, he⟩ := do24 rights kind
  rw [hr, Option.bind_some, he]
  by_cases h2 : kind ≥ 1 <;> by_cases h3 : kind ≤ 9
  · have hs : ishr rights ((UInt64.ofInt (iand kind 15)) : UInt64).toNat = ishr rights kind := by rw [shift24 kind h2 h3]
    rw [hs]
    simp [h2, h3]
  all_goals simp [h2, h3]
end Go.Proofs.YtphbbnlbfbhcaaaDoor.Wl
