/- Plain law: TenantRights. -/
import Derived.Test.YtpdoioeckiiegaaGreatDoorWlAl20
import Derived.Test.YtpdoioeckiiegaaGreatDoorWlTr2
import Derived.Test.YtpdoioeckiiegaaGreatDoorWlTr1
set_option linter.unusedSimpArgs false
set_option linter.unusedVariables false
set_option maxRecDepth 10000
namespace Go.Proofs.YtpdoioeckiiegaaGreatDoor.Wl
open Go.RowKit Go.Proofs
theorem area20 (f : FlashS) (hf : f.wear.length = 8) (rights : Int) : area_New f ⟨rights, 0, 8⟩ 5 = some ⟨0, 8, 5⟩ := by
  obtain ⟨b, wear, cut, mask, off, ops⟩ := f
  dsimp only at hf
  have hl : ∀ f : FlashS, nor_Flash_Len f = some (f.wear.length : Int) := fun f => rfl
  unfold area_New
  simp only [hl, Option.bind_some, bnd_def, jn_def, hf]
  simp [wrap64]
theorem need20 (rights : Int) : caps_Need (c20 rights) = some 8 := by kernel_rfl
theorem len20 : area_Area_Len ⟨0, 8, 5⟩ = some 8 := by kernel_rfl
theorem part20 (f : FlashS) (hf : f.wear.length = 8) (rights : Int) (h0 : 0 ≤ rights) (h1 : rights ≤ 1023) : tenant_part f ⟨rights, 0, 8⟩ (c20 rights) = some (some ⟨0, 8, 5⟩) := by
  have e1 : caps_Right ⟨(c20 rights).Name, (c20 rights).Key, (c20 rights).Slot, (c20 rights).Budget, (c20 rights).Quota, (c20 rights).Rights, (c20 rights).First⟩ = some true := right20 rights h0 h1
  have e2 : caps_Need ⟨(c20 rights).Name, (c20 rights).Key, (c20 rights).Slot, (c20 rights).Budget, (c20 rights).Quota, (c20 rights).Rights, (c20 rights).First⟩ = some 8 := need20 rights
  have e3 : area_New f ⟨rights, 0, 8⟩ (c20 rights).Budget = some ⟨0, 8, 5⟩ := area20 f hf rights
  unfold tenant_part
  rw [e1, Option.bind_some, Bool.not_true, cond_false, e3, Option.bind_some, jn_def, e2, Option.bind_some, len20, Option.bind_some, bnd_def]
  rfl
theorem from20 : slot_From 0 0 2 = some 4 := by kernel_rfl
theorem awithin20 : area_Area_within ⟨0, 8, 5⟩ 4 0 11 = some true := by kernel_rfl
theorem awithin20' : area_Area_within ⟨0, 8, 5⟩ 0 0 320 = some true := by kernel_rfl
theorem aprog19 : area_Area_Program ⟨0, 8, 5⟩ 4 0 img20 f20 = some (0, F19) := by
  have h1 : area_Area_within ⟨0, 8, 5⟩ 4 0 (img20.length : Int) = some true := awithin20
  have h2 : (wrap64 ((wrap64 ((wrap64 ((⟨0, 8, 5⟩ : AreaS).from_ + 4)) * 320)) + 0)) = ((1280 : Nat) : Int) := by kernel_rfl
  unfold area_Area_Program
  rw [h1, Option.bind_some, Bool.not_true, cond_false, h2, prog_eq f20 wf20 1280 img20 (by decide) (by decide), Option.bind_some, prog19]
theorem aprog20 : area_Area_Program ⟨0, 8, 5⟩ 0 0 (dl cell20) F19 = some (0, F20) := by
  have h0 : (dl cell20).length = 320 := by kernel_rfl
  have h1 : area_Area_within ⟨0, 8, 5⟩ 0 0 ((dl cell20).length : Int) = some true := by rw [h0]; exact awithin20'
  have h2 : (wrap64 ((wrap64 ((wrap64 ((⟨0, 8, 5⟩ : AreaS).from_ + 0)) * 320)) + 0)) = ((0 : Nat) : Int) := by kernel_rfl
  unfold area_Area_Program
  rw [h1, Option.bind_some, Bool.not_true, cond_false, h2, prog_eq F19 wf19 0 (dl cell20) (by decide) (by rw [h0]; decide), Option.bind_some, prog20]
theorem swrite_g (f F1 : FlashS) (hmay : slot_May ⟨0, 8, 5⟩ 0 0 2 f = some true) (hbl : area_Area_Blank ⟨0, 8, 5⟩ 4 f = some true) (hp : area_Area_Program ⟨0, 8, 5⟩ 4 0 img20 f = some (0, F1)) : slot_Write ⟨0, 8, 5⟩ 0 0 2 img20 f = some (0, F1) := by
  unfold slot_Write
  rw [from20, Option.bind_some]
  have h1 : ((4 : Int) == (-1)) = false := rfl
  have h2 : decide ((img20.length : Int) > 320) = false := rfl
  have h3 : ((img20.length : Int) == 0) = false := rfl
  simp only [bnd_def, jn_def]
  rw [h1, cond_false, h2, cond_false, hmay, Option.bind_some, Bool.not_true, cond_false, hbl, Option.bind_some, Bool.not_true, cond_false, h3, cond_false, hp, Option.bind_some]
theorem swrite20 : slot_Write ⟨0, 8, 5⟩ 0 0 2 img20 f20 = some (0, F19) := swrite_g f20 F19 smay20 blank20 aprog19
theorem mbytes20 : meta_Bytes M20 = some meta20 := by kernel_rfl
theorem sha20 : sha_Sum img20 = some sum20 := by kernel_rfl
theorem cput20 : cell_Put 1 meta20 = some (dl cell20, 0) := by kernel_rfl
theorem ris20 : ring_is ⟨0, 8, 5⟩ = some true := by kernel_rfl
theorem put_g (f F2 : FlashS) (hfi : ring_find ⟨0, 8, 5⟩ f = some (0, 0, [], false)) (hmay : ring_May ⟨0, 8, 5⟩ f = some true) (hne : ring_Next ⟨0, 8, 5⟩ f = some 0) (hbl : area_Area_Blank ⟨0, 8, 5⟩ 0 f = some true) (hp : area_Area_Program ⟨0, 8, 5⟩ 0 0 (dl cell20) f = some (0, F2)) : ring_Put ⟨0, 8, 5⟩ meta20 f = some (0, F2) := by
  unfold ring_Put
  have h1 : decide ((meta20.length : Int) > 156) = false := by kernel_rfl
  have h2 : wrap64 (0 + 1) = 1 := by kernel_rfl
  have h3 : ((0 : Int) != 0) = false := rfl
  rw [hfi, Option.bind_some, ris20, Option.bind_some, Bool.not_true, cond_false, h1, cond_false, hmay, Option.bind_some, Bool.not_true, cond_false]
  dsimp only
  rw [h2, cput20, Option.bind_some]
  dsimp only
  rw [h3, cond_false, hne, Option.bind_some, hbl, Option.bind_some, jn_def, Bool.not_true, cond_false]
  dsimp only
  rw [hp, Option.bind_some]
theorem put20 : ring_Put ⟨0, 8, 5⟩ meta20 F19 = some (0, F20) := put_g F19 F20 find19 rmay19 next19 blank19 aprog20
theorem chunks20 : update_Chunks 11 = some 1 := by kernel_rfl
theorem ulen20 : update_Len 11 0 = some 11 := by kernel_rfl
theorem setup_g (f F1 F2 : FlashS) (hwr : slot_Write ⟨0, 8, 5⟩ 0 0 2 img20 f = some (0, F1)) (hpu : ring_Put ⟨0, 8, 5⟩ meta20 F1 = some (0, F2)) (hf : f.wear.length = 8) (rights : Int) (h0 : 0 ≤ rights) (h1 : rights ≤ 1023) : tenant_Setup f ⟨rights, 0, 8⟩ (c20 rights) = some (0, F2) := by
  have e1 : tenant_part f ⟨rights, 0, 8⟩ ⟨(c20 rights).Name, (c20 rights).Key, (c20 rights).Slot, (c20 rights).Budget, (c20 rights).Quota, (c20 rights).Rights, (c20 rights).First⟩ = some (some ⟨0, 8, 5⟩) := part20 f hf rights h0 h1
  have e2 : (((c20 rights).First.length : Nat) : Int) = 11 := rfl
  have e3 : (c20 rights).First = img20 := rfl
  have e4 : (c20 rights).Slot = 2 := rfl
  obtain ⟨F, hF⟩ : ∃ F, F = Fuel := ⟨_, rfl⟩
  obtain ⟨k, hk⟩ : ∃ k, F = k + 1 + 1 := ⟨F - 2, by have := fuel_ge (n := 2) (by omega); omega⟩
  unfold tenant_Setup
  rw [e1, Option.bind_some, optc_some, e2, chunks20, Option.bind_some, jn_def, ← hF, hk, tenant_Setup_l0]
  dsimp only
  have w1 : wrap64 (0 * 320) = 0 := by kernel_rfl
  have w2 : wrap64 (0 + 11) = 11 := by kernel_rfl
  have w3 : wrap64 (0 + 1) = 1 := by kernel_rfl
  have w4 : slc img20 0 11 = img20 := rfl
  rw [dec_t (show (0 : Int) < 1 by omega), cond_true, e2, ulen20, Option.bind_some, w1, w2, e3, w4, e4, hwr, Option.bind_some, chk_t (by decide)]
  dsimp only
  have h3 : ((0 : Int) != 0) = false := rfl
  rw [h3, cond_false, w3, tenant_Setup_l0]
  dsimp only
  rw [dec_f (show ¬ ((1 : Int) < 1) by omega), cond_false, sha20, Option.bind_some, bnd_def]
  have hM : ({ (MetaS.zero : MetaS) with Have := (Arr.set MetaS.zero.Have 0 (⟨1, 11, sum20⟩ : Img)) } : MetaS) = M20 := rfl
  rw [hM, mbytes20, Option.bind_some, hpu, Option.bind_some]
theorem setup20 (rights : Int) (h0 : 0 ≤ rights) (h1 : rights ≤ 1023) : tenant_Setup f20 ⟨rights, 0, 8⟩ (c20 rights) = some (0, F20) := setup_g f20 F19 F20 swrite20 put20 (by rw [f20, List.length_replicate]) rights h0 h1
theorem read20 : meta_Read ([0] ++ ([0, 0, 0, 1, 0, 0, 0, 11] ++ (sum20.l ++ List.replicate 115 0))) = some (M20, 0) := by kernel_rfl
theorem open_g (f : FlashS) (hla : ring_Last ⟨0, 8, 5⟩ f = some (1, [0] ++ ([0, 0, 0, 1, 0, 0, 0, 11] ++ (sum20.l ++ List.replicate 115 0)), true)) (hf : f.wear.length = 8) (rights : Int) (h0 : 0 ≤ rights) (h1 : rights ≤ 1023) : tenant_Open f ⟨rights, 0, 8⟩ (c20 rights) = some (some (T20 rights), 0) := by
  have e1 : tenant_part f ⟨rights, 0, 8⟩ ⟨(c20 rights).Name, (c20 rights).Key, (c20 rights).Slot, (c20 rights).Budget, (c20 rights).Quota, (c20 rights).Rights, (c20 rights).First⟩ = some (some ⟨0, 8, 5⟩) := part20 f hf rights h0 h1
  unfold tenant_Open
  rw [e1, Option.bind_some, optc_some, hla, Option.bind_some]
  simp only [Bool.not_true, cond_false]
  rw [read20, Option.bind_some]
  rfl
theorem open20 (rights : Int) (h0 : 0 ≤ rights) (h1 : rights ≤ 1023) : tenant_Open F20 ⟨rights, 0, 8⟩ (c20 rights) = some (some (T20 rights), 0) := open_g F20 last20 (by rw [F20, List.length_replicate]) rights h0 h1
theorem ok20_all (rights k : Int) (h1 : 1 ≤ k) (h2 : k ≤ 9) : ∃ f r, tenant_Tenant_fact (T20 rights) ⟨k, 0, []⟩ F20 = some f ∧ update_Do M20 ⟨k, 0, []⟩ f 2 = some (M20, r) ∧ (r.Err == 14) = false := by
  have : k = 1 ∨ k = 2 ∨ k = 3 ∨ k = 4 ∨ k = 5 ∨ k = 6 ∨ k = 7 ∨ k = 8 ∨ k = 9 := by omega
  rcases this with rfl | rfl | rfl | rfl | rfl | rfl | rfl | rfl | rfl
  · exact ⟨_, _, fact20_1 rights, upd20_1, rfl⟩
  · exact ⟨_, _, fact20_2 rights, upd20_2, rfl⟩
  · exact ⟨_, _, fact20_3 rights, upd20_3, rfl⟩
  · exact ⟨_, _, fact20_4 rights, upd20_4, rfl⟩
  · exact ⟨_, _, fact20_5 rights, upd20_5, rfl⟩
  · exact ⟨_, _, fact20_6 rights, upd20_6, rfl⟩
  · exact ⟨_, _, fact20_7 rights, upd20_7, rfl⟩
  · exact ⟨_, _, fact20_8 rights, upd20_8, rfl⟩
  · exact ⟨_, _, fact20_9 rights, upd20_9, rfl⟩
theorem sh20_1 : ((UInt64.ofInt (iand 1 15)) : UInt64).toNat = 1 := by kernel_rfl
theorem sh20_2 : ((UInt64.ofInt (iand 2 15)) : UInt64).toNat = 2 := by kernel_rfl
theorem sh20_3 : ((UInt64.ofInt (iand 3 15)) : UInt64).toNat = 3 := by kernel_rfl
theorem sh20_4 : ((UInt64.ofInt (iand 4 15)) : UInt64).toNat = 4 := by kernel_rfl
theorem sh20_5 : ((UInt64.ofInt (iand 5 15)) : UInt64).toNat = 5 := by kernel_rfl
theorem sh20_6 : ((UInt64.ofInt (iand 6 15)) : UInt64).toNat = 6 := by kernel_rfl
theorem sh20_7 : ((UInt64.ofInt (iand 7 15)) : UInt64).toNat = 7 := by kernel_rfl
theorem sh20_8 : ((UInt64.ofInt (iand 8 15)) : UInt64).toNat = 8 := by kernel_rfl
theorem sh20_9 : ((UInt64.ofInt (iand 9 15)) : UInt64).toNat = 9 := by kernel_rfl
theorem shift20 (k : Int) (h1 : 1 ≤ k) (h2 : k ≤ 9) : ((UInt64.ofInt (iand k 15)) : UInt64).toNat = k := by
  have : k = 1 ∨ k = 2 ∨ k = 3 ∨ k = 4 ∨ k = 5 ∨ k = 6 ∨ k = 7 ∨ k = 8 ∨ k = 9 := by omega
  rcases this with rfl | rfl | rfl | rfl | rfl | rfl | rfl | rfl | rfl
  · exact congrArg Int.ofNat sh20_1
  · exact congrArg Int.ofNat sh20_2
  · exact congrArg Int.ofNat sh20_3
  · exact congrArg Int.ofNat sh20_4
  · exact congrArg Int.ofNat sh20_5
  · exact congrArg Int.ofNat sh20_6
  · exact congrArg Int.ofNat sh20_7
  · exact congrArg Int.ofNat sh20_8
  · exact congrArg Int.ofNat sh20_9
theorem do_no (t : TenantS) (q : Req) (F : FlashS) (h : caps_May t.cap q.Kind = some false) : tenant_Tenant_Do t q F = some (⟨14, 0, 0⟩, true, t, F) := by
  unfold tenant_Tenant_Do
  rw [h, Option.bind_some, Bool.not_false, cond_true]
theorem do_same (t : TenantS) (q : Req) (F : FlashS) (f : FactS) (r : MetaS × RespS) (h : caps_May t.cap q.Kind = some true) (hf : tenant_Tenant_fact t ⟨q.Kind, q.N, q.Bytes⟩ F = some f) (hr : update_Do t.m ⟨q.Kind, q.N, q.Bytes⟩ f t.c.Quota = some r) (hm : r.1 = t.m) : tenant_Tenant_Do t q F = some (r.2, true, t, F) := by
  unfold tenant_Tenant_Do
  rw [h, Option.bind_some, Bool.not_true, cond_false, hf, Option.bind_some, hr, Option.bind_some]
  have hd : (!(decide (r.1 = t.m))) = false := by rw [decide_eq_true hm]; rfl
  simp only [jn_def, bnd_def]
  rw [hd]
  cases (r.2.Err == 0) <;> rfl
theorem do_g (F : FlashS) (hall : ∀ rights k : Int, 1 ≤ k → k ≤ 9 → ∃ f r, tenant_Tenant_fact (T20 rights) ⟨k, 0, []⟩ F = some f ∧ update_Do M20 ⟨k, 0, []⟩ f 2 = some (M20, r) ∧ (r.Err == 14) = false) (rights k : Int) : ∃ r, tenant_Tenant_Do (T20 rights) ⟨k, 0, []⟩ F = some (r, true, T20 rights, F) ∧ (r.Err == 14) = !(decide (k ≥ 1) && decide (k ≤ 9) && (iand (ishr rights k) 1 == 1)) := by
  have hq : caps_May (T20 rights).cap (⟨k, 0, []⟩ : Req).Kind = some (decide (k ≥ 1) && decide (k ≤ 9) && (iand (ishr rights k) 1 == 1)) := may_eq ⟨rights, 0, 8⟩ k
  generalize hb : (decide (k ≥ 1) && decide (k ≤ 9) && (iand (ishr rights k) 1 == 1)) = b at hq ⊢
  cases b with
  | false => exact ⟨⟨14, 0, 0⟩, do_no _ _ _ hq, rfl⟩
  | true =>
    simp only [Bool.and_eq_true, decide_eq_true_eq] at hb
    obtain ⟨f, r, hf, hr, he⟩ := hall rights k hb.1.1 hb.1.2
    exact ⟨r, do_same (T20 rights) ⟨k, 0, []⟩ F f (M20, r) hq hf hr rfl, he⟩
theorem rights_g (f F : FlashS) (hnew : nor_New 8 = some f) (hset : ∀ rights : Int, 0 ≤ rights → rights ≤ 1023 → tenant_Setup f ⟨rights, 0, 8⟩ (c20 rights) = some (0, F)) (hop : ∀ rights : Int, 0 ≤ rights → rights ≤ 1023 → tenant_Open F ⟨rights, 0, 8⟩ (c20 rights) = some (some (T20 rights), 0)) (hall : ∀ rights k : Int, 1 ≤ k → k ≤ 9 → ∃ f r, tenant_Tenant_fact (T20 rights) ⟨k, 0, []⟩ F = some f ∧ update_Do M20 ⟨k, 0, []⟩ f 2 = some (M20, r) ∧ (r.Err == 14) = false) (rights kind : Int) : law20_TenantRights rights kind = some true := by
  unfold law20_TenantRights
  rw [alive20, Option.bind_some]
  simp only [bnd_def, jn_def, Bool.not_true, cond_false]
  by_cases h0 : rights < 0
  · simp [h0]
  by_cases h1 : rights > 1023
  · simp [h0, h1]
  have e0 : decide (rights < 0) = false := decide_eq_false h0
  have e1 : decide (rights > 1023) = false := decide_eq_false h1
  have e2 : ∀ r : Config, r = c20 1022 → (⟨r.Name, r.Key, r.Slot, r.Budget, r.Quota, rights, r.First⟩ : Config) = c20 rights := fun r h => by subst h; rfl
  rw [e0, e1]
  simp only [cond_false]
  rw [config20, Option.bind_some, hnew, Option.bind_some, e2 _ rfl, hset rights (by omega) (by omega), Option.bind_some]
  dsimp only
  rw [hop rights (by omega) (by omega), Option.bind_some]
  simp only [optc_some]
  have hn : law20_num 0 = some 0 := rfl
  rw [hn, Option.bind_some]
  have hz : ((0 : Int) != 0) = false := rfl
  have hme : tenant_Tenant_Meta (T20 rights) = some M20 := rfl
  simp only [hz, cond_false, hme, Option.bind_some]
  obtain ⟨r, hr, he⟩ := do_g F hall rights kind
  rw [hr, Option.bind_some]
  simp only [he, hme, Option.bind_some, cond_true]
  by_cases h2 : kind ≥ 1 <;> by_cases h3 : kind ≤ 9
  · have hs : ishr rights ((UInt64.ofInt (iand kind 15)) : UInt64).toNat = ishr rights kind := by rw [shift20 kind h2 h3]
    rw [hs]
    simp [h2, h3]
  all_goals simp [h2, h3]
theorem rights_plain (rights kind : Int) : law20_TenantRights rights kind = some true := rights_g f20 F20 new20 setup20 open20 ok20_all rights kind
end Go.Proofs.YtpdoioeckiiegaaGreatDoor.Wl
