import Derived.Test.YtpdoioeckiiegaaGreatDoorWlW
import Derived.Test.YtpdoioeckiiegaaGreatDoorWlX0
import Derived.Test.YtpdoioeckiiegaaGreatDoorWlX1
import Derived.Test.YtpdoioeckiiegaaGreatDoorWlX3
import Derived.Test.YtpdoioeckiiegaaGreatDoorWlX8
import Derived.Test.YtpdoioeckiiegaaGreatDoorWlX9
import Derived.Test.YtpdoioeckiiegaaGreatDoorWlX10
import Derived.Test.YtpdoioeckiiegaaGreatDoorWlX11
import Derived.Test.YtpdoioeckiiegaaGreatDoorWlX13
set_option linter.unusedSimpArgs false
set_option linter.unusedVariables false
set_option maxRecDepth 10000
namespace Go.Proofs.YtpdoioeckiiegaaGreatDoor.Wl
open Go.RowKit Go.Proofs
def tenant_Setup_l0 (a2_c : Config) (x14 : AreaS) (r17 : Int) (J19 : FlashS → Option (Int × FlashS)) : Nat → (Int × FlashS) → Option (Int × FlashS)
  | 0, _ => none
  | k34 + 1, s34 =>
    bif (decide (s34.1 < r17)) then (
    (update_Len (a2_c.First.length : Int) s34.1).bind fun r476 =>
    (slot_Write x14 (0 : Int) s34.1 a2_c.Slot (slc a2_c.First (wrap64 (s34.1 * 320)) (wrap64 ((wrap64 (s34.1 * 320)) + r476))) s34.2).bind fun r596 =>
    chk (0 ≤ (wrap64 (s34.1 * 320)) ∧ (wrap64 (s34.1 * 320)) ≤ (wrap64 ((wrap64 (s34.1 * 320)) + r476)) ∧ (wrap64 ((wrap64 (s34.1 * 320)) + r476)) ≤ (a2_c.First.length : Int)) <|
    bif (r596.1 != 0) then (
    some (r596.1, r596.2)) else (
    tenant_Setup_l0 a2_c x14 r17 J19 k34 ((wrap64 (s34.1 + 1)), r596.2))) else (
    J19 s34.2)

def tenant_Setup (a0_f : FlashS) (a1_cap : CapS) (a2_c : Config) : Option (Int × FlashS) :=
(tenant_part a0_f a1_cap (⟨a2_c.Name, a2_c.Key, a2_c.Slot, a2_c.Budget, a2_c.Quota, a2_c.Rights, a2_c.First⟩ : Config)).bind fun r7 =>
optc r7 (
some (1, a0_f)) (fun x14 =>
(update_Chunks (a2_c.First.length : Int)).bind fun r17 =>
jn (fun (x20 : FlashS) =>
(sha_Sum a2_c.First).bind fun r23 =>
bnd ({ (MetaS.zero : MetaS) with Have := (Arr.set MetaS.zero.Have 0 (⟨1, (a2_c.First.length : Int), r23⟩ : Img)) }) fun x25 =>
(meta_Bytes x25).bind fun r27 =>
(ring_Put x14 r27 x20).bind fun r31 =>
some (r31.1, r31.2)) fun J19 =>
tenant_Setup_l0 a2_c x14 r17 J19 Fuel (0, a0_f))

theorem c_tenant_Setup (a0_fp : Nat) (a0_f : FlashS) (a0_fg : FlashG) (a1_cap : CapS) (a2_c : Config) (A1 : Option Addr) (c2 : Nat) (A3 : Option Addr) (c4 : Nat) (r : Int × FlashS) (H : tenant_Setup a0_f a1_cap a2_c = some r) : Fn Tryz.prog 12 [(.pointer (some ⟨a0_fp, 0, none⟩)), (.agg (CapS.cells a1_cap).toArray), (.agg ([vs a2_c.Name, .slice A1 a2_c.Key.length c2, vi a2_c.Slot, vi a2_c.Budget, vi a2_c.Quota, vi a2_c.Rights, .slice A3 a2_c.First.length c4]).toArray)] [Sl E8 A3 c4 a2_c.First, Sl E8 A1 c2 a2_c.Key] [FlashT a0_fg a0_fp a0_f] (fun v D' G' => ∃ (g716 : FlashG), v = (vi r.1) ∧ D' = [] ∧ G' = [FlashT g716 a0_fp r.2]) := by
  unfold tenant_Setup at H
  refine fn_of Tryz.func12 rfl Tryz.ntmps12 rfl ?_
  intro w0 D0 G0
  dsimp only [app, initEnv, Nat.zero_add, Nat.reduceAdd]
  refine s_seq ?_
  refine s_reg [0, 1, 2] rfl ?_
  refine oc (k_box rfl rfl rfl (cs := CapS.cells a1_cap) rfl (g0 rfl) rfl rfl ?_)
  intro b5
  refine oc (k_box rfl rfl rfl (cs := [vs a2_c.Name, .slice A1 a2_c.Key.length c2, vi a2_c.Slot, vi a2_c.Budget, vi a2_c.Quota, vi a2_c.Rights, .slice A3 a2_c.First.length c4]) rfl (g0 rfl) rfl rfl ?_)
  intro b6
  refine o_run ft [2] rfl rfl ?_
  refine o_nil ?_
  refine q_then ?_
  refine s_seq ?_
  refine s_reg [0, 1, 2, 3, 4] rfl ?_
  refine o_run ft [0] rfl rfl ?_
  refine o_ld (hG 1 rfl) rfl (ev_ldN (j := 0) rfl rfl Tryz.isAgg28 (sz (CapS.len _) Tryz.sizeOf28) (sub_all _) rfl) (g0 rfl) rfl rfl ?_
  refine o_ld (hG 0 rfl) rfl (ev_ldN (j := 0) (s := [vs a2_c.Name, .slice A1 a2_c.Key.length c2, vi a2_c.Slot, vi a2_c.Budget, vi a2_c.Quota, vi a2_c.Rights, .slice A3 a2_c.First.length c4]) rfl rfl Tryz.isAgg25 (sz rfl Tryz.sizeOf25) (sub_all _) rfl) (g0 rfl) rfl rfl ?_
  obtain ⟨r7, Hc8, H⟩ := bind_some' H
  refine oc (k_call (c_tenant_part a0_fp a0_f a0_fg a1_cap (⟨a2_c.Name, a2_c.Key, a2_c.Slot, a2_c.Budget, a2_c.Quota, a2_c.Rights, a2_c.First⟩ : Config) A1 c2 A3 c4 r7 Hc8) Tryz.call36 rfl rfl rfl [0, 1] [2] rfl rfl (g0 rfl) rfl rfl ?_)
  intro v9 D10 G11 hp12
  rcases hr13 : r7 with _ | x14
  · have H := optc_n H hr13
    obtain ⟨rfl, rfl, rfl⟩ := hp12.1 hr13
    dsimp only [app]
    refine o_run ft [4] rfl rfl ?_
    refine o_nil ?_
    refine q_then ?_
    refine s_seq ?_
    refine s_seq ?_
    refine s_reg [0, 1] rfl ?_
    refine o_run ft [0] rfl rfl ?_
    refine o_pu rfl (ev_bin rfl rfl rfl rfl (eql_ptr_nn Tryz.runUnderlying81)) (g0 rfl) rfl rfl ?_
    refine o_nil ?_
    refine q_then ?_
    refine s_cond_t rfl ?_
    refine s_seq ?_
    refine s_reg [0] rfl ?_
    refine o_run ft [0] rfl rfl ?_
    refine o_nil ?_
    refine q_then ?_
    refine s_ret ?_
    refine q_then_r ?_
    cases H
    exact q_end (rs_1 Tryz.results12 (rv_tmp rfl)) ⟨a0_fg, rfl, rfl, rfl⟩ [] rfl 2 rfl [0] rfl 2 rfl
  · have H := optc_s H hr13
    obtain ⟨b15, rfl, rfl, rfl⟩ := hp12.2 x14 hr13
    dsimp only [app]
    refine o_run ft [4] rfl rfl ?_
    refine o_nil ?_
    refine q_then ?_
    refine s_seq ?_
    refine s_seq ?_
    refine s_reg [0, 1] rfl ?_
    refine o_run ft [0] rfl rfl ?_
    refine o_pu rfl (ev_bin rfl rfl rfl rfl (eql_ptr_pn Tryz.runUnderlying81)) (g0 rfl) rfl rfl ?_
    refine o_nil ?_
    refine q_then ?_
    refine s_cond_f rfl ?_
    refine s_skip ?_
    refine q_then ?_
    refine s_seq ?_
    refine s_reg [0, 1, 2, 3] rfl ?_
    refine o_run ft [0] rfl rfl ?_
    refine o_ld (hG 2 rfl) rfl (ev_ld1 (j := 6) rfl rfl Tryz.isAgg22 (sub_nth (j := 6) rfl) rfl) (g0 rfl) rfl rfl ?_
    refine o_pu rfl (ev_len_slice rfl rfl Tryz.runUnderlying22) (g0 rfl) rfl rfl ?_
    refine o_run ft [3] rfl rfl ?_
    refine o_nil ?_
    refine q_then ?_
    refine s_seq ?_
    refine s_seq ?_
    refine s_reg [0, 1, 2] rfl ?_
    refine o_run ft [0] rfl rfl ?_
    obtain ⟨r17, Hc18, H⟩ := bind_some' H
    refine oc (k_call (c_update_Chunks (a2_c.First.length : Int) r17 Hc18) Tryz.call37 rfl rfl rfl [] [] rfl rfl (g0 rfl) rfl rfl ?_)
    rintro _ _ _ ⟨rfl, rfl, rfl⟩
    dsimp only [app]
    refine o_run ft [2] rfl rfl ?_
    refine o_nil ?_
    refine q_then ?_
    refine q_join (fun (x20 : FlashS) (y21 : FlashG) => ⟨Sl E8 A3 c4 a2_c.First :: Sl E8 A1 c2 a2_c.Key :: D0, At b6 0 [vs a2_c.Name, .slice A1 a2_c.Key.length c2, vi a2_c.Slot, vi a2_c.Budget, vi a2_c.Quota, vi a2_c.Rights, .slice A3 a2_c.First.length c4] :: At b5 0 (CapS.cells a1_cap) :: AreaT a0_fp () b15 x14 :: FlashT y21 a0_fp x20 :: G0, [(5, (.pointer (some ⟨b6, 0, none⟩))), (7, (.pointer (some ⟨b15, 0, none⟩))), (8, (vi (a2_c.First.length : Int)))]⟩) H ?_ ?_
    · intro x20 y21 H
      dsimp only
      refine q_then ?_
      refine s_seq ?_
      refine s_reg [0, 1, 2] rfl ?_
      refine o_pu rfl (ev_build (cs := MetaS.cells MetaS.zero) rfl rfl Tryz.zeroValue52 Tryz.runUnderlying52 pl52 (show Instr.fill _ (MetaS.cells MetaS.zero : List Value).toArray _ = some _ from fill_nil)) (g0 rfl) rfl rfl ?_
      refine oc (k_alloc rfl rfl Tryz.zeroValue52 (cs := MetaS.cells MetaS.zero) rfl (g0 rfl) rfl rfl ?_)
      intro b22
      refine oc (k_st (j := 0) rfl rfl rfl rfl (vs := MetaS.cells MetaS.zero) rfl (sz (MetaS.len _) Tryz.sizeOf52) (MetaS.sc _) 0 rfl (spl_all ((MetaS.len _).trans (MetaS.len _).symm)) rfl (g0 rfl) rfl ?_)
      refine o_nil ?_
      refine q_then ?_
      refine s_seq ?_
      refine s_reg [0, 1, 2, 3, 4, 5, 6, 7] rfl ?_
      refine o_run ft [0, 1] rfl rfl ?_
      refine o_ld (hG 1 rfl) rfl (ev_ld1 (j := 6) rfl rfl Tryz.isAgg22 (sub_nth (j := 6) rfl) rfl) (g0 rfl) rfl rfl ?_
      obtain ⟨r23, Hc24, H⟩ := bind_some' H
      refine oc (k_call (c_sha_Sum a2_c.First A3 c4 r23 Hc24) Tryz.call40 rfl rfl rfl [0] [] rfl rfl (g0 rfl) rfl rfl ?_)
      rintro _ _ _ ⟨rfl, rfl, rfl⟩
      dsimp only [app]
      refine o_pu rfl (ev_build (cs := Img.cells (⟨1, (a2_c.First.length : Int), r23⟩ : Img)) rfl rfl Tryz.zeroValue49 Tryz.runUnderlying49 pl49 (show Instr.fill _ (Img.cells Img.zero : List Value).toArray _ = some _ from (fill_cons rfl (s := [vi 1]) rfl rfl (Img.set_Version _ 1) (fill_cons rfl (s := [vi (a2_c.First.length : Int)]) rfl rfl (Img.set_Size _ (a2_c.First.length : Int)) (fill_cons rfl (s := r23.l.flatMap E8) rfl (arr_len E8_len _ rfl) (Img.set_Digest _ r23) fill_nil))))) (g0 rfl) rfl rfl ?_
      refine o_run ft [5] rfl rfl ?_
      refine o_pu rfl (ev_idx_array (k := 0) rfl rfl rfl Tryz.runUnderlying50 Tryz.sizeOf49 ⟨by omega, by omega⟩ rfl) (g0 rfl) rfl rfl ?_
      refine oc (k_st (j := 1) rfl rfl rfl rfl (vs := Img.cells (⟨1, (a2_c.First.length : Int), r23⟩ : Img)) rfl (sz (Img.len _) Tryz.sizeOf49) (Img.sc _) 0 rfl (spl_in (MetaS.sub_Have _) (spl_arr Img.len _ (k := 0) _ ⟨by omega, by omega⟩ rfl) (MetaS.set_Have _ _) rfl) rfl (g0 rfl) rfl ?_)
      obtain ⟨x25, hx26⟩ : ∃ x, x = ({ (MetaS.zero : MetaS) with Have := (Arr.set MetaS.zero.Have 0 (⟨1, (a2_c.First.length : Int), r23⟩ : Img)) }) := ⟨_, rfl⟩
      have H := bnd_eq H hx26
      refine k_tok 0 (A' := At b22 0 (MetaS.cells x25)) rfl (by rw [hx26]) ?_
      refine o_nil ?_
      refine q_then ?_
      refine s_seq ?_
      refine s_reg [0, 1, 2, 3, 4] rfl ?_
      refine o_run ft [0] rfl rfl ?_
      refine o_ld (hG 0 rfl) rfl (ev_ldN (j := 0) rfl rfl Tryz.isAgg52 (sz (MetaS.len _) Tryz.sizeOf52) (sub_all _) rfl) (g0 rfl) rfl rfl ?_
      obtain ⟨r27, Hc28, H⟩ := bind_some' H
      refine oc (k_call (c_meta_Bytes x25 r27 Hc28) Tryz.call42 rfl rfl rfl [] [] rfl rfl (g0 rfl) rfl rfl ?_)
      rintro _ _ _ ⟨A29, c30, rfl, rfl, rfl⟩
      dsimp only [app]
      obtain ⟨r31, Hc32, H⟩ := bind_some' H
      refine oc (k_call (c_ring_Put a0_fp b15 x14 r27 A29 c30 x20 y21 r31 Hc32) Tryz.call41 rfl rfl rfl [0] [4, 4] rfl rfl (g0 rfl) rfl rfl ?_)
      rintro _ _ _ ⟨g33, rfl, rfl, rfl⟩
      dsimp only [app]
      refine o_run ft [4] rfl rfl ?_
      refine o_nil ?_
      refine q_then ?_
      refine s_ret ?_
      cases H
      exact q_end (rs_1 Tryz.results12 (rv_tmp rfl)) ⟨g33, rfl, rfl, rfl⟩ [] rfl 3 rfl [1] rfl 5 rfl
    · intro J19 J19h H
      refine s_block ?_
      refine s_loop (k_wk (loop_ind (fun (s34 : Int × FlashS) (y34 : FlashG) => ⟨Sl E8 A3 c4 a2_c.First :: Sl E8 A1 c2 a2_c.Key :: D0, At b6 0 [vs a2_c.Name, .slice A1 a2_c.Key.length c2, vi a2_c.Slot, vi a2_c.Budget, vi a2_c.Quota, vi a2_c.Rights, .slice A3 a2_c.First.length c4] :: At b5 0 (CapS.cells a1_cap) :: AreaT a0_fp () b15 x14 :: FlashT y34 a0_fp s34.2 :: G0, [(5, (.pointer (some ⟨b6, 0, none⟩))), (7, (.pointer (some ⟨b15, 0, none⟩))), (8, (vi (a2_c.First.length : Int))), (23, (vi r17)), (24, (vi s34.1))]⟩) (tenant_Setup_l0 a2_c x14 r17 J19) _ (fun _ => rfl) ?_ Fuel (0, a0_f) a0_fg H) [5, 7, 8, 23, 24] [0, 1] 2 [2, 2, 0, 0] 0 rfl rfl rfl)
      intro k34 s34 y34 ih H
      dsimp only
      rw [tenant_Setup_l0] at H
      refine s_seq ?_
      refine s_reg [0] rfl ?_
      refine o_run ft [0] rfl rfl ?_
      refine o_nil ?_
      refine q_then ?_
      refine s_seq ?_
      refine s_cond rfl ?_ ?_
      · intro hb35
        have H := cnd_t H hb35
        refine s_skip ?_
        refine q_then ?_
        refine s_seq ?_
        refine s_block ?_
        refine s_seq ?_
        refine s_reg [0, 1] rfl ?_
        refine o_run ft [0, 1] rfl rfl ?_
        refine o_nil ?_
        refine q_then ?_
        refine s_seq ?_
        refine s_reg [0, 1, 2] rfl ?_
        refine o_run ft [0, 1, 2] rfl rfl ?_
        refine o_nil ?_
        refine q_then ?_
        refine s_seq ?_
        obtain ⟨r476, Hc477, H⟩ := bind_some' H
        obtain ⟨r596, Hc597, H⟩ := bind_some' H
        refine s_draw mixed [(3, [13], Has b6 0 [vs a2_c.Name, .slice A1 a2_c.Key.length c2, vi a2_c.Slot, vi a2_c.Budget, vi a2_c.Quota, vi a2_c.Rights, .slice A3 a2_c.First.length c4])] ?_
        refine wa_loc fun R to fro => to ?_
        have hN35_4 : ∀ (A556 : Option Addr), ∀ (c557 : Nat), ∀ (g598 : FlashG), (bif (r596.1 != 0) then ( some (r596.1, r596.2)) else ( tenant_Setup_l0 a2_c x14 r17 J19 k34 ((wrap64 (s34.1 + 1)), r596.2))) = some r → R (Sl E8 A1 c2 a2_c.Key :: Sl E8 A3 c4 a2_c.First :: Sl E8 A556 c557 (slc a2_c.First (wrap64 (s34.1 * 320)) (wrap64 ((wrap64 (s34.1 * 320)) + r476))) :: D0) (AreaT a0_fp () b15 x14 :: At b5 0 (CapS.cells a1_cap) :: At b6 0 [vs a2_c.Name, .slice A1 a2_c.Key.length c2, vi a2_c.Slot, vi a2_c.Budget, vi a2_c.Quota, vi a2_c.Rights, .slice A3 a2_c.First.length c4] :: FlashT g598 a0_fp r596.2 :: G0) [(5, (.pointer (some ⟨b6, 0, none⟩))), (7, (.pointer (some ⟨b15, 0, none⟩))), (8, (vi (a2_c.First.length : Int))), (11, (vi r596.1)), (23, (vi r17)), (24, (vi s34.1))] 0 #[true, true, true, true, true, true, true, true, true, true, true, true, true, true, true] := by
          intro A556 c557 g598 H
          refine to ?_
          refine a_done (by kernel_rfl) (sl_end (by kernel_rfl) sl_nil) ?_
          refine q_then ?_
          refine s_seq ?_
          refine s_reg [0, 1] rfl ?_
          refine o_run ft [0, 1] rfl rfl ?_
          refine o_nil ?_
          refine q_then ?_
          refine s_cond rfl ?_ ?_
          · intro hb716
            have H := cnd_t H hb716
            refine s_seq ?_
            refine s_reg [0, 1] rfl ?_
            refine o_run ft [0, 1] rfl rfl ?_
            refine o_nil ?_
            refine q_then ?_
            refine s_ret ?_
            refine q_block_r ?_
            refine q_then_r ?_
            refine q_then_r ?_
            refine q_block_r ?_
            refine q_then_r ?_
            cases H
            exact q_end (rs_1 Tryz.results12 (rv_tmp rfl)) ⟨g598, rfl, rfl, rfl⟩ [] rfl 3 rfl [3] rfl 3 rfl
          · intro hb716
            have H := cnd_f H hb716
            refine s_skip ?_
            refine q_block ?_
            refine q_then ?_
            refine s_reg [0, 1] rfl ?_
            refine o_run ft [0, 1] rfl rfl ?_
            refine o_nil ?_
            refine q_loop ?_
            exact k_wk (ih ((wrap64 (s34.1 + 1)), r596.2) g598 H) [5, 7, 8, 23, 24] [1, 0] 3 [2, 1, 0, 0] 0 rfl rfl rfl
        have hN35_3 : ∀ (A556 : Option Addr), ∀ (c557 : Nat), (bif (r596.1 != 0) then ( some (r596.1, r596.2)) else ( tenant_Setup_l0 a2_c x14 r17 J19 k34 ((wrap64 (s34.1 + 1)), r596.2))) = some r → R (Sl E8 A1 c2 a2_c.Key :: Sl E8 A3 c4 a2_c.First :: Sl E8 A556 c557 (slc a2_c.First (wrap64 (s34.1 * 320)) (wrap64 ((wrap64 (s34.1 * 320)) + r476))) :: D0) (AreaT a0_fp () b15 x14 :: At b5 0 (CapS.cells a1_cap) :: At b6 0 [vs a2_c.Name, .slice A1 a2_c.Key.length c2, vi a2_c.Slot, vi a2_c.Budget, vi a2_c.Quota, vi a2_c.Rights, .slice A3 a2_c.First.length c4] :: FlashT y34 a0_fp s34.2 :: G0) [(5, (.pointer (some ⟨b6, 0, none⟩))), (7, (.pointer (some ⟨b15, 0, none⟩))), (8, (vi (a2_c.First.length : Int))), (23, (vi r17)), (24, (vi s34.1)), (29, (.pointer (some ⟨b15, 0, none⟩))), (30, (vi s34.1)), (32, (vi a2_c.Slot)), (41, (.slice A556 (slc a2_c.First (wrap64 (s34.1 * 320)) (wrap64 ((wrap64 (s34.1 * 320)) + r476))).length c557))] 2 #[true, true, true, true, true, true, true, true, true, true, true, true, true, false, false] := by
          intro A556 c557 H
          refine to ?_
          refine acs [13] rfl (by kernel_rfl) (sl_cons (hG 2 rfl) sl_nil) ⟨?_, trivial⟩
          · refine k_call (c_slot_Write a0_fp b15 x14 0 s34.1 a2_c.Slot (slc a2_c.First (wrap64 (s34.1 * 320)) (wrap64 ((wrap64 (s34.1 * 320)) + r476))) A556 c557 s34.2 y34 r596 Hc597) Tryz.call38 rfl rfl rfl [2] [0, 2] rfl rfl (g0 rfl) rfl rfl ?_
            rintro _ _ _ ⟨g598, rfl, rfl, rfl⟩
            dsimp only [app]
            refine a_run ft [14] rfl (fun _ _ _ _ _ h => h) (by kernel_rfl) rfl ?_
            exact wa_l (by kernel_rfl) (k_wk (fro (hN35_4 A556 c557 g598 H)) [5, 7, 8, 11, 23, 24] [0, 1, 2] 3 [0, 1, 1, 0] 0 rfl rfl rfl)
        have hN35_2 : (chk (0 ≤ (wrap64 (s34.1 * 320)) ∧ (wrap64 (s34.1 * 320)) ≤ (wrap64 ((wrap64 (s34.1 * 320)) + r476)) ∧ (wrap64 ((wrap64 (s34.1 * 320)) + r476)) ≤ (a2_c.First.length : Int)) <| bif (r596.1 != 0) then ( some (r596.1, r596.2)) else ( tenant_Setup_l0 a2_c x14 r17 J19 k34 ((wrap64 (s34.1 + 1)), r596.2))) = some r → R (Sl E8 A1 c2 a2_c.Key :: Sl E8 A3 c4 a2_c.First :: D0) (AreaT a0_fp () b15 x14 :: At b5 0 (CapS.cells a1_cap) :: At b6 0 [vs a2_c.Name, .slice A1 a2_c.Key.length c2, vi a2_c.Slot, vi a2_c.Budget, vi a2_c.Quota, vi a2_c.Rights, .slice A3 a2_c.First.length c4] :: FlashT y34 a0_fp s34.2 :: G0) [(5, (.pointer (some ⟨b6, 0, none⟩))), (7, (.pointer (some ⟨b15, 0, none⟩))), (8, (vi (a2_c.First.length : Int))), (23, (vi r17)), (24, (vi s34.1)), (29, (.pointer (some ⟨b15, 0, none⟩))), (30, (vi s34.1)), (32, (vi a2_c.Slot)), (34, (.slice A3 a2_c.First.length c4)), (35, (vi (wrap64 (s34.1 * 320)))), (40, (vi (wrap64 ((wrap64 (s34.1 * 320)) + r476))))] 3 #[true, true, true, true, true, true, true, true, true, true, true, true, false, false, false] := by
          intro H
          refine to ?_
          refine acs [12] rfl (by kernel_rfl) (sl_cons (hG 2 rfl) sl_nil) ⟨?_, trivial⟩
          · obtain ⟨hk558, H⟩ := chk_some H
            refine k_slice (a := (wrap64 (s34.1 * 320))) (b := (wrap64 ((wrap64 (s34.1 * 320)) + r476))) 1 rfl rfl rfl rfl E8_len Tryz.runUnderlying22 Tryz.sizeOf5 (.inr rfl) (.inr rfl) hk558 (g0 rfl) rfl rfl ?_
            intro A556 c557
            exact wa_l (by kernel_rfl) (k_wk (fro (hN35_3 A556 c557 H)) [5, 7, 8, 23, 24, 29, 30, 32, 41] [1, 2, 0] 3 [0, 0, 0, 0] 0 rfl rfl rfl)
        have hN35_1 : (chk (0 ≤ (wrap64 (s34.1 * 320)) ∧ (wrap64 (s34.1 * 320)) ≤ (wrap64 ((wrap64 (s34.1 * 320)) + r476)) ∧ (wrap64 ((wrap64 (s34.1 * 320)) + r476)) ≤ (a2_c.First.length : Int)) <| bif (r596.1 != 0) then ( some (r596.1, r596.2)) else ( tenant_Setup_l0 a2_c x14 r17 J19 k34 ((wrap64 (s34.1 + 1)), r596.2))) = some r → R (Sl E8 A1 c2 a2_c.Key :: Sl E8 A3 c4 a2_c.First :: D0) (AreaT a0_fp () b15 x14 :: At b5 0 (CapS.cells a1_cap) :: At b6 0 [vs a2_c.Name, .slice A1 a2_c.Key.length c2, vi a2_c.Slot, vi a2_c.Budget, vi a2_c.Quota, vi a2_c.Rights, .slice A3 a2_c.First.length c4] :: FlashT y34 a0_fp s34.2 :: G0) [(5, (.pointer (some ⟨b6, 0, none⟩))), (7, (.pointer (some ⟨b15, 0, none⟩))), (8, (vi (a2_c.First.length : Int))), (23, (vi r17)), (24, (vi s34.1)), (29, (.pointer (some ⟨b15, 0, none⟩))), (30, (vi s34.1)), (32, (vi a2_c.Slot)), (34, (.slice A3 a2_c.First.length c4)), (35, (vi (wrap64 (s34.1 * 320)))), (36, (vi (wrap64 (s34.1 * 320)))), (37, (vi (a2_c.First.length : Int))), (38, (vi s34.1))] 5 #[true, true, true, true, true, true, true, true, true, true, false, false, false, false, false] := by
          intro H
          refine to ?_
          refine acs [10] rfl (by kernel_rfl) (sl_cons (hG 2 rfl) sl_nil) ⟨?_, trivial⟩
          · refine k_call (c_update_Len (a2_c.First.length : Int) s34.1 r476 Hc477) Tryz.call39 rfl rfl rfl [] [] rfl rfl (g0 rfl) rfl rfl ?_
            rintro _ _ _ ⟨rfl, rfl, rfl⟩
            dsimp only [app]
            refine a_run ft [11] rfl (fun _ _ _ _ _ h => h) (by kernel_rfl) rfl ?_
            exact wa_l (by kernel_rfl) (k_wk (fro (hN35_2 H)) [5, 7, 8, 23, 24, 29, 30, 32, 34, 35, 40] [0, 1] 2 [0, 0, 0, 0] 0 rfl rfl rfl)
        have hN35_5 : (chk (0 ≤ (wrap64 (s34.1 * 320)) ∧ (wrap64 (s34.1 * 320)) ≤ (wrap64 ((wrap64 (s34.1 * 320)) + r476)) ∧ (wrap64 ((wrap64 (s34.1 * 320)) + r476)) ≤ (a2_c.First.length : Int)) <| bif (r596.1 != 0) then ( some (r596.1, r596.2)) else ( tenant_Setup_l0 a2_c x14 r17 J19 k34 ((wrap64 (s34.1 + 1)), r596.2))) = some r → R (Sl E8 A1 c2 a2_c.Key :: Sl E8 A3 c4 a2_c.First :: D0) (AreaT a0_fp () b15 x14 :: At b5 0 (CapS.cells a1_cap) :: At b6 0 [vs a2_c.Name, .slice A1 a2_c.Key.length c2, vi a2_c.Slot, vi a2_c.Budget, vi a2_c.Quota, vi a2_c.Rights, .slice A3 a2_c.First.length c4] :: FlashT y34 a0_fp s34.2 :: G0) [(5, (.pointer (some ⟨b6, 0, none⟩))), (7, (.pointer (some ⟨b15, 0, none⟩))), (8, (vi (a2_c.First.length : Int))), (23, (vi r17)), (24, (vi s34.1)), (29, (.pointer (some ⟨b15, 0, none⟩))), (30, (vi s34.1)), (32, (vi a2_c.Slot)), (33, (.pointer (some ⟨b6, 6, none⟩))), (35, (vi (wrap64 (s34.1 * 320)))), (40, (vi (wrap64 ((wrap64 (s34.1 * 320)) + r476))))] 4 #[true, true, true, true, true, false, true, true, true, true, true, true, false, false, false] := by
          intro H
          refine to ?_
          refine acs [5] rfl (by kernel_rfl) (sl_cons (hG 2 rfl) sl_nil) ⟨?_, trivial⟩
          · refine k_ld (hG 2 rfl) rfl (ev_ld1 (j := 6) rfl rfl Tryz.isAgg22 (sub_nth (j := 6) rfl) rfl) (g0 rfl) rfl rfl ?_
            exact wa_l (by kernel_rfl) (k_wk (fro (hN35_2 H)) [5, 7, 8, 23, 24, 29, 30, 32, 34, 35, 40] [0, 1] 2 [0, 0, 0, 0] 0 rfl rfl rfl)
        have hN35_0 : (chk (0 ≤ (wrap64 (s34.1 * 320)) ∧ (wrap64 (s34.1 * 320)) ≤ (wrap64 ((wrap64 (s34.1 * 320)) + r476)) ∧ (wrap64 ((wrap64 (s34.1 * 320)) + r476)) ≤ (a2_c.First.length : Int)) <| bif (r596.1 != 0) then ( some (r596.1, r596.2)) else ( tenant_Setup_l0 a2_c x14 r17 J19 k34 ((wrap64 (s34.1 + 1)), r596.2))) = some r → R (Sl E8 A1 c2 a2_c.Key :: Sl E8 A3 c4 a2_c.First :: D0) (AreaT a0_fp () b15 x14 :: At b5 0 (CapS.cells a1_cap) :: At b6 0 [vs a2_c.Name, .slice A1 a2_c.Key.length c2, vi a2_c.Slot, vi a2_c.Budget, vi a2_c.Quota, vi a2_c.Rights, .slice A3 a2_c.First.length c4] :: FlashT y34 a0_fp s34.2 :: G0) [(5, (.pointer (some ⟨b6, 0, none⟩))), (7, (.pointer (some ⟨b15, 0, none⟩))), (8, (vi (a2_c.First.length : Int))), (23, (vi r17)), (24, (vi s34.1)), (29, (.pointer (some ⟨b15, 0, none⟩))), (30, (vi s34.1)), (32, (vi a2_c.Slot)), (33, (.pointer (some ⟨b6, 6, none⟩))), (35, (vi (wrap64 (s34.1 * 320)))), (36, (vi (wrap64 (s34.1 * 320)))), (37, (vi (a2_c.First.length : Int))), (38, (vi s34.1))] 6 #[true, true, true, true, true, false, true, true, true, true, false, false, false, false, false] := by
          intro H
          refine to ?_
          refine acs [5, 10] rfl (by kernel_rfl) (sl_cons (hG 2 rfl) sl_nil) ⟨?_, ?_, trivial⟩
          · refine k_ld (hG 2 rfl) rfl (ev_ld1 (j := 6) rfl rfl Tryz.isAgg22 (sub_nth (j := 6) rfl) rfl) (g0 rfl) rfl rfl ?_
            exact wa_l (by kernel_rfl) (k_wk (fro (hN35_1 H)) [5, 7, 8, 23, 24, 29, 30, 32, 34, 35, 36, 37, 38] [0, 1] 2 [0, 0, 0, 0] 0 rfl rfl rfl)
          · refine k_call (c_update_Len (a2_c.First.length : Int) s34.1 r476 Hc477) Tryz.call39 rfl rfl rfl [] [] rfl rfl (g0 rfl) rfl rfl ?_
            rintro _ _ _ ⟨rfl, rfl, rfl⟩
            dsimp only [app]
            refine a_run ft [11] rfl (fun _ _ _ _ _ h => h) (by kernel_rfl) rfl ?_
            exact wa_l (by kernel_rfl) (k_wk (fro (hN35_5 H)) [5, 7, 8, 23, 24, 29, 30, 32, 33, 35, 40] [0, 1] 2 [0, 0, 0, 0] 0 rfl rfl rfl)
        refine a_run ft [0, 1, 2] rfl (fun _ _ _ _ _ h => h) (by kernel_rfl) rfl ?_
        refine a_l1 3 0 rfl (by kernel_rfl) rfl (ev_ld1 (j := 2) rfl rfl Tryz.isAgg3 (sub_nth (j := 2) rfl) rfl) (fun _ _ _ h => h) (g0 rfl) rfl rfl ?_
        refine a_run ft [4, 6, 7, 8, 9] rfl (fun _ _ _ _ _ h => h) (by kernel_rfl) rfl ?_
        exact wa_l (by kernel_rfl) (k_wk (fro (hN35_0 H)) [5, 7, 8, 23, 24, 29, 30, 32, 33, 35, 36, 37, 38] [1, 0] 2 [2, 1, 0, 0] 0 rfl rfl rfl)
      · intro hb35
        have H := cnd_f H hb35
        refine s_exit ?_
        refine q_then_x ?_
        refine q_then_x ?_
        refine q_block_x ?_
        exact k_wk (J19h s34.2 y34 H) [5, 7, 8] [0, 1] 2 [0, 0, 0, 0] 0 rfl rfl rfl

def hmac_Tag (a0_key : List UInt8) (a1_b : List UInt8) : Option (Arr UInt8 32) :=
(sha_New ).bind fun r6 =>
(sha_New ).bind fun r11 =>
(hmac_pad a0_key (54 : UInt8)).bind fun r16 =>
(sha_Stream_Write (⟨r6.h, r6.count, r6.rest⟩ : StreamS) r16).bind fun r20 =>
(sha_Stream_Write (⟨r20.h, r20.count, r20.rest⟩ : StreamS) a1_b).bind fun r24 =>
(sha_Stream_Sum (⟨r24.h, r24.count, r24.rest⟩ : StreamS)).bind fun r28 =>
(hmac_pad a0_key (92 : UInt8)).bind fun r31 =>
(sha_Stream_Write (⟨r11.h, r11.count, r11.rest⟩ : StreamS) r31).bind fun r35 =>
(sha_Stream_Write (⟨r35.h, r35.count, r35.rest⟩ : StreamS) r28.l).bind fun r39 =>
(sha_Stream_Sum (⟨r39.h, r39.count, r39.rest⟩ : StreamS)).bind fun r43 =>
some r43

theorem c_hmac_Tag (a0_key : List UInt8) (A1 : Option Addr) (c2 : Nat) (a1_b : List UInt8) (A3 : Option Addr) (c4 : Nat) (r : (Arr UInt8 32)) (H : hmac_Tag a0_key a1_b = some r) : Fn Tryz.prog 187 [(.slice A1 a0_key.length c2), (.slice A3 a1_b.length c4)] [Sl E8 A3 c4 a1_b, Sl E8 A1 c2 a0_key] [] (fun v D' G' => v = (.agg (r.l.flatMap E8).toArray) ∧ D' = [] ∧ G' = []) := by
  unfold hmac_Tag at H
  refine fn_of Tryz.func187 rfl Tryz.ntmps187 rfl ?_
  intro w0 D0 G0
  dsimp only [app, initEnv, Nat.zero_add, Nat.reduceAdd]
  refine s_seq ?_
  refine s_reg [0] rfl ?_
  refine oc (k_alloc rfl rfl Tryz.zeroValue45 (cs := (Arr.zero 0 32 : Arr UInt8 32).l.flatMap E8) rfl (g0 rfl) rfl rfl ?_)
  intro b5
  refine o_nil ?_
  refine q_then ?_
  refine s_seq ?_
  refine s_reg [0, 1, 2, 3] rfl ?_
  obtain ⟨r6, Hc7, H⟩ := bind_some' H
  refine oc (k_call (c_sha_New  r6 Hc7) Tryz.call80 rfl rfl rfl [] [] rfl rfl (g0 rfl) rfl rfl ?_)
  rintro _ _ _ ⟨b8, A9, c10, rfl, rfl, rfl⟩
  dsimp only [app]
  obtain ⟨r11, Hc12, H⟩ := bind_some' H
  refine oc (k_call (c_sha_New  r11 Hc12) Tryz.call80 rfl rfl rfl [] [] rfl rfl (g0 rfl) rfl rfl ?_)
  rintro _ _ _ ⟨b13, A14, c15, rfl, rfl, rfl⟩
  dsimp only [app]
  refine o_run ft [2, 3] rfl rfl ?_
  refine o_nil ?_
  refine q_then ?_
  refine s_seq ?_
  refine s_reg [0, 1, 2, 3] rfl ?_
  refine o_run ft [0, 1] rfl rfl ?_
  obtain ⟨r16, Hc17, H⟩ := bind_some' H
  refine oc (k_call (c_hmac_pad a0_key A1 c2 54 r16 Hc17) Tryz.call221 rfl rfl rfl [3] [] rfl rfl (g0 rfl) rfl rfl ?_)
  rintro _ _ _ ⟨A18, c19, rfl, rfl, rfl⟩
  dsimp only [app]
  obtain ⟨r20, Hc21, H⟩ := bind_some' H
  refine oc (k_call (c_sha_Stream_Write b8 (⟨r6.h, r6.count, r6.rest⟩ : StreamS) A9 c10 r16 A18 c19 r20 Hc21) Tryz.call82 rfl rfl rfl [0, 2] [2] rfl rfl (g0 rfl) rfl rfl ?_)
  rintro _ _ _ ⟨A22, c23, rfl, rfl, rfl⟩
  dsimp only [app]
  refine o_nil ?_
  refine q_then ?_
  refine s_seq ?_
  refine s_reg [0, 1, 2] rfl ?_
  refine o_run ft [0, 1] rfl rfl ?_
  obtain ⟨r24, Hc25, H⟩ := bind_some' H
  refine oc (k_call (c_sha_Stream_Write b8 (⟨r20.h, r20.count, r20.rest⟩ : StreamS) A22 c23 a1_b A3 c4 r24 Hc25) Tryz.call82 rfl rfl rfl [4, 0] [0] rfl rfl (g0 rfl) rfl rfl ?_)
  rintro _ _ _ ⟨A26, c27, rfl, rfl, rfl⟩
  dsimp only [app]
  refine o_nil ?_
  refine q_then ?_
  refine s_seq ?_
  refine s_reg [0, 1, 2, 3] rfl ?_
  refine o_run ft [0] rfl rfl ?_
  obtain ⟨r28, Hc29, H⟩ := bind_some' H
  refine oc (k_call (c_sha_Stream_Sum b8 (⟨r24.h, r24.count, r24.rest⟩ : StreamS) A26 c27 r28 Hc29) Tryz.call86 rfl rfl rfl [0] [0] rfl rfl (g0 rfl) rfl rfl ?_)
  rintro _ _ _ ⟨rfl, rfl, rfl⟩
  dsimp only [app]
  refine oc (k_alloc rfl rfl Tryz.zeroValue45 (cs := (Arr.zero 0 32 : Arr UInt8 32).l.flatMap E8) rfl (g0 rfl) rfl rfl ?_)
  intro b30
  refine oc (k_st (j := 0) rfl rfl rfl rfl (vs := r28.l.flatMap E8) rfl (sz (arr_len E8_len _ rfl) Tryz.sizeOf45) (arr_sc E8_one _) 0 rfl (spl_all ((arr_len E8_len _ rfl).trans (arr_len E8_len _ rfl).symm)) rfl (g0 rfl) rfl ?_)
  refine o_nil ?_
  refine q_then ?_
  refine s_seq ?_
  refine s_reg [0, 1, 2, 3] rfl ?_
  refine o_run ft [0, 1] rfl rfl ?_
  obtain ⟨r31, Hc32, H⟩ := bind_some' H
  refine oc (k_call (c_hmac_pad a0_key A1 c2 92 r31 Hc32) Tryz.call221 rfl rfl rfl [6] [] rfl rfl (g0 rfl) rfl rfl ?_)
  rintro _ _ _ ⟨A33, c34, rfl, rfl, rfl⟩
  dsimp only [app]
  obtain ⟨r35, Hc36, H⟩ := bind_some' H
  refine oc (k_call (c_sha_Stream_Write b13 (⟨r11.h, r11.count, r11.rest⟩ : StreamS) A14 c15 r31 A33 c34 r35 Hc36) Tryz.call82 rfl rfl rfl [0, 4] [4] rfl rfl (g0 rfl) rfl rfl ?_)
  rintro _ _ _ ⟨A37, c38, rfl, rfl, rfl⟩
  dsimp only [app]
  refine o_nil ?_
  refine q_then ?_
  refine s_seq ?_
  refine s_reg [0, 1, 2] rfl ?_
  refine o_run ft [0] rfl rfl ?_
  refine o_pu rfl (ev_slice_arr rfl rfl Tryz.runUnderlying45 Tryz.sizeOf5) (g0 rfl) rfl rfl ?_
  refine k_keep 2 rfl ?_
  refine k_ro_sl (f := E8) (cap := 32) r28.l 0 rfl (sub_all _) rfl (Nat.le_of_eq (r28).len) (by decide) ?_
  refine k_eq (v' := (.slice (some ⟨b30, 0, none⟩) r28.l.length 32)) 24 rfl (congrArg (fun z => Value.slice (some ⟨b30, 0, none⟩) z 32) (r28).len.symm) ?_
  refine k_spare_full (some ⟨b30, 0, none⟩) r28.l.length 32 1 (r28).len ?_
  obtain ⟨r39, Hc40, H⟩ := bind_some' H
  refine oc (k_call (c_sha_Stream_Write b13 (⟨r35.h, r35.count, r35.rest⟩ : StreamS) A37 c38 r28.l (some ⟨b30, 0, none⟩) 32 r39 Hc40) Tryz.call82 rfl rfl rfl [0, 2] [1] rfl rfl (g0 rfl) rfl rfl ?_)
  rintro _ _ _ ⟨A41, c42, rfl, rfl, rfl⟩
  dsimp only [app]
  refine o_nil ?_
  refine q_then ?_
  refine s_seq ?_
  refine s_reg [0, 1, 2] rfl ?_
  refine o_run ft [0] rfl rfl ?_
  obtain ⟨r43, Hc44, H⟩ := bind_some' H
  refine oc (k_call (c_sha_Stream_Sum b13 (⟨r39.h, r39.count, r39.rest⟩ : StreamS) A41 c42 r43 Hc44) Tryz.call86 rfl rfl rfl [0] [0] rfl rfl (g0 rfl) rfl rfl ?_)
  rintro _ _ _ ⟨rfl, rfl, rfl⟩
  dsimp only [app]
  refine oc (k_st (j := 0) rfl rfl rfl rfl (vs := r43.l.flatMap E8) rfl (sz (arr_len E8_len _ rfl) Tryz.sizeOf45) (arr_sc E8_one _) 5 rfl (spl_all ((arr_len E8_len _ rfl).trans (arr_len E8_len _ rfl).symm)) rfl (g0 rfl) rfl ?_)
  refine o_nil ?_
  refine q_then ?_
  refine s_ret ?_
  cases H
  exact q_end (rs_1 Tryz.results187 (rv_cell (j := 0) rfl (hG 5 rfl) Tryz.isAgg45 (sz (arr_len E8_len _ rfl) Tryz.sizeOf45) (sub_all _) rfl)) ⟨rfl, rfl, rfl⟩ [] rfl 12 rfl [] rfl 6 rfl

def manifest_Signed (a0_key : List UInt8) (a1_b : List UInt8) : Option Bool :=
(manifest_Read a1_b).bind fun r5 =>
bif (r5.2.2 != 0) then (
some false) else (
chk (0 ≤ (0 : Int) ∧ (0 : Int) ≤ (60 : Int) ∧ (60 : Int) ≤ (a1_b.length : Int)) <|
(hmac_Tag a0_key (slc a1_b (0 : Int) (60 : Int))).bind fun r14 =>
(hmac_Same r5.2.1 r14.l).bind fun r17 =>
some r17)

theorem c_manifest_Signed (a0_key : List UInt8) (A1 : Option Addr) (c2 : Nat) (a1_b : List UInt8) (A3 : Option Addr) (c4 : Nat) (r : Bool) (H : manifest_Signed a0_key a1_b = some r) : Fn Tryz.prog 117 [(.slice A1 a0_key.length c2), (.slice A3 a1_b.length c4)] [Sl E8 A3 c4 a1_b, Sl E8 A1 c2 a0_key] [] (fun v D' G' => v = (vb r) ∧ D' = [] ∧ G' = []) := by
  unfold manifest_Signed at H
  refine fn_of Tryz.func117 rfl Tryz.ntmps117 rfl ?_
  intro w0 D0 G0
  dsimp only [app, initEnv, Nat.zero_add, Nat.reduceAdd]
  refine s_seq ?_
  refine s_reg [0] rfl ?_
  refine o_run ft [0] rfl rfl ?_
  refine o_nil ?_
  refine q_then ?_
  refine s_seq ?_
  refine s_reg [0, 1, 2, 3, 4, 5, 6, 7, 8, 9] rfl ?_
  refine o_run ft [0] rfl rfl ?_
  obtain ⟨r5, Hc6, H⟩ := bind_some' H
  refine oc (k_call (c_manifest_Read a1_b A3 c4 r5 Hc6) Tryz.call116 rfl rfl rfl [0] [] rfl rfl (g0 rfl) rfl rfl ?_)
  rintro _ _ _ ⟨A7, c8, rfl, rfl, rfl⟩
  dsimp only [app]
  refine o_run ft [2, 3, 4, 5] rfl rfl ?_
  refine oc (k_alloc rfl rfl Tryz.zeroValue103 (cs := Mani.cells Mani.zero) rfl (g0 rfl) rfl rfl ?_)
  intro b9
  refine oc (k_st (j := 0) rfl rfl rfl rfl (vs := Mani.cells r5.1) rfl (sz (Mani.len _) Tryz.sizeOf103) (Mani.sc _) 0 rfl (spl_all ((Mani.len _).trans (Mani.len _).symm)) rfl (g0 rfl) rfl ?_)
  refine o_run ft [8, 9] rfl rfl ?_
  refine o_nil ?_
  refine q_then ?_
  refine s_seq ?_
  refine s_seq ?_
  refine s_reg [0, 1] rfl ?_
  refine o_run ft [0, 1] rfl rfl ?_
  refine o_nil ?_
  refine q_then ?_
  refine s_cond rfl ?_ ?_
  · intro hb10
    have H := cnd_t H hb10
    refine s_seq ?_
    refine s_reg [0] rfl ?_
    refine o_run ft [0] rfl rfl ?_
    refine o_nil ?_
    refine q_then ?_
    refine s_ret ?_
    refine q_then_r ?_
    cases H
    exact q_end (rs_1 Tryz.results117 (rv_tmp rfl)) ⟨rfl, rfl, rfl⟩ [] rfl 3 rfl [] rfl 2 rfl
  · intro hb10
    have H := cnd_f H hb10
    refine s_skip ?_
    refine q_then ?_
    refine s_seq ?_
    refine s_reg [0, 1, 2, 3, 4, 5] rfl ?_
    refine o_run ft [0, 1] rfl rfl ?_
    obtain ⟨hk13, H⟩ := chk_some H
    refine oc (k_slice (ka := .i64) (a := (0 : Int)) (b := (60 : Int)) 1 rfl rfl rfl rfl E8_len Tryz.runUnderlying22 Tryz.sizeOf5 (.inl ⟨rfl, rfl⟩) (.inr rfl) hk13 (g0 rfl) rfl rfl ?_)
    intro A11 c12
    obtain ⟨r14, Hc15, H⟩ := bind_some' H
    refine oc (k_call (c_hmac_Tag a0_key A1 c2 (slc a1_b (0 : Int) (60 : Int)) A11 c12 r14 Hc15) Tryz.call187 rfl rfl rfl [0, 3] [] rfl rfl (g0 rfl) rfl rfl ?_)
    rintro _ _ _ ⟨rfl, rfl, rfl⟩
    dsimp only [app]
    refine oc (k_alloc rfl rfl Tryz.zeroValue45 (cs := (Arr.zero 0 32 : Arr UInt8 32).l.flatMap E8) rfl (g0 rfl) rfl rfl ?_)
    intro b16
    refine oc (k_st (j := 0) rfl rfl rfl rfl (vs := r14.l.flatMap E8) rfl (sz (arr_len E8_len _ rfl) Tryz.sizeOf45) (arr_sc E8_one _) 0 rfl (spl_all ((arr_len E8_len _ rfl).trans (arr_len E8_len _ rfl).symm)) rfl (g0 rfl) rfl ?_)
    refine o_nil ?_
    refine q_then ?_
    refine s_seq ?_
    refine s_reg [0, 1, 2, 3] rfl ?_
    refine o_run ft [0] rfl rfl ?_
    refine o_pu rfl (ev_slice_arr rfl rfl Tryz.runUnderlying45 Tryz.sizeOf5) (g0 rfl) rfl rfl ?_
    refine k_keep 0 rfl ?_
    refine k_ro_sl (f := E8) (cap := 32) r14.l 0 rfl (sub_all _) rfl (Nat.le_of_eq (r14).len) (by decide) ?_
    refine k_eq (v' := (.slice (some ⟨b16, 0, none⟩) r14.l.length 32)) 22 rfl (congrArg (fun z => Value.slice (some ⟨b16, 0, none⟩) z 32) (r14).len.symm) ?_
    refine k_spare_full (some ⟨b16, 0, none⟩) r14.l.length 32 1 (r14).len ?_
    obtain ⟨r17, Hc18, H⟩ := bind_some' H
    refine oc (k_call (c_hmac_Same r5.2.1 A7 c8 r14.l (some ⟨b16, 0, none⟩) 32 r17 Hc18) Tryz.call188 rfl rfl rfl [0, 3] [] rfl rfl (g0 rfl) rfl rfl ?_)
    rintro _ _ _ ⟨rfl, rfl, rfl⟩
    dsimp only [app]
    refine o_run ft [3] rfl rfl ?_
    refine o_nil ?_
    refine q_then ?_
    refine s_ret ?_
    cases H
    exact q_end (rs_1 Tryz.results117 (rv_tmp rfl)) ⟨rfl, rfl, rfl⟩ [] rfl 6 rfl [] rfl 3 rfl

def tenant_Tenant_fact (a0_t : TenantS) (a1_q : Req) (fl0 : FlashS) : Option FactS :=
(tenant_Tenant_area a0_t).bind fun r5 =>
(meta_Other a0_t.m).bind fun r7 =>
(ring_May a0_t.part fl0).bind fun r9 =>
jn (fun (x14 : FactS) =>
some x14) fun J13 =>
bif (a1_q.Kind == 1) then (
(manifest_Read a1_q.Bytes).bind fun r17 =>
jn (fun (x23 : FactS) =>
(manifest_Signed a0_t.c.Key a1_q.Bytes).bind fun r25 =>
J13 ({ (x23 : FactS) with Tag := r25 })) fun J22 =>
bnd (r17.2.2 == 0) fun b27 =>
bif b27 then (
bnd ({ ((⟨false, false, (Arr.zero 0 32), (!r9)⟩ : FactS) : FactS) with Name := (r17.1.Name == a0_t.c.Name) }) fun x29 =>
J22 x29) else (
J22 ({ ((⟨false, false, (Arr.zero 0 32), (!r9)⟩ : FactS) : FactS) with Name := false }))) else (
bif (a1_q.Kind == 2) then (
jn (fun (x33 : FactS) =>
J13 x33) fun J32 =>
bnd ((⟨false, false, (Arr.zero 0 32), (!r9)⟩ : FactS).Worn) fun b35 =>
bif b35 then (
J32 ({ ((⟨false, false, (Arr.zero 0 32), (!r9)⟩ : FactS) : FactS) with Worn := true })) else (
(slot_May a0_t.part r7 a1_q.N a0_t.c.Slot fl0).bind fun r37 =>
J32 ({ ((⟨false, false, (Arr.zero 0 32), (!r9)⟩ : FactS) : FactS) with Worn := (!r37) }))) else (
bif (a1_q.Kind == 3) then (
(slot_Digest a0_t.part r7 a0_t.c.Slot a0_t.m.Coming.Size fl0).bind fun r40 =>
J13 ({ ((⟨false, false, (Arr.zero 0 32), (!r9)⟩ : FactS) : FactS) with Digest := r40 })) else (
J13 (⟨false, false, (Arr.zero 0 32), (!r9)⟩ : FactS))))

theorem c_tenant_Tenant_fact (fp0 : Nat) (a0_tp : Nat) (a0_t : TenantS) (a0_tg : TenantG) (a1_q : Req) (A1 : Option Addr) (c2 : Nat) (fl0 : FlashS) (fl0g : FlashG) (r : FactS) (H : tenant_Tenant_fact a0_t a1_q fl0 = some r) : Fn Tryz.prog 50 [(.pointer (some ⟨a0_tp, 0, none⟩)), (.agg ([vi a1_q.Kind, vi a1_q.N, .slice A1 a1_q.Bytes.length c2]).toArray)] [Sl E8 A1 c2 a1_q.Bytes] [TenantT fp0 a0_tg a0_tp a0_t, FlashT fl0g fp0 fl0] (fun v D' G' => v = (.agg (FactS.cells r).toArray) ∧ D' = [] ∧ G' = [TenantT fp0 a0_tg a0_tp a0_t, FlashT fl0g fp0 fl0]) := by
  unfold tenant_Tenant_fact at H
  refine fn_of Tryz.func50 rfl Tryz.ntmps50 rfl ?_
  intro w0 D0 G0
  dsimp only [app, initEnv, Nat.zero_add, Nat.reduceAdd]
  refine s_seq ?_
  refine s_reg [0, 1] rfl ?_
  refine oc (k_box rfl rfl rfl (cs := [vi a1_q.Kind, vi a1_q.N, .slice A1 a1_q.Bytes.length c2]) rfl (g0 rfl) rfl rfl ?_)
  intro b3
  refine oc (k_alloc rfl rfl Tryz.zeroValue60 (cs := FactS.cells FactS.zero) rfl (g0 rfl) rfl rfl ?_)
  intro b4
  refine o_nil ?_
  refine q_then ?_
  refine s_seq ?_
  refine k_unp 2 rfl ?_
  dsimp only [app, del]
  refine s_draw mixed [(5, [6], Has a0_tp 0 ([.iface 81 (.pointer (some ⟨a0_tg.b0, 0, none⟩))] ++ (CapS.cells a0_t.cap ++ ([vs a0_t.c.Name, .slice a0_tg.A3 a0_t.c.Key.length a0_tg.c3, vi a0_t.c.Slot, vi a0_t.c.Budget, vi a0_t.c.Quota, vi a0_t.c.Rights, .slice a0_tg.A8 a0_t.c.First.length a0_tg.c8] ++ (MetaS.cells a0_t.m)))))] ?_
  refine a_run ft [0, 2, 3, 4] rfl (fun _ _ _ _ _ h => h) (by kernel_rfl) rfl ?_
  refine a_l1 5 0 rfl (by kernel_rfl) rfl (ev_ldN (j := 11) rfl rfl Tryz.isAgg52 (sz (MetaS.len _) Tryz.sizeOf52) (sub_skip (n := 1) (sub_skip (n := 3) (sub_skip (n := 7) (sub_all _) rfl rfl) (CapS.len _) rfl) rfl rfl) rfl) (fun _ _ _ h => h) (g0 rfl) rfl rfl ?_
  refine ac 1 (by kernel_rfl) (sl_cons (hG 0 rfl) sl_nil) ?_
  refine k_pk (TenantT fp0 a0_tg a0_tp a0_t) rfl [0, 1] [0, 0] rfl rfl ?_
  obtain ⟨r5, Hc6, H⟩ := bind_some' H
  refine k_call (c_tenant_Tenant_area fp0 a0_tp a0_t a0_tg r5 Hc6) Tryz.call56 rfl rfl rfl [] [0] rfl rfl (g0 rfl) rfl rfl ?_
  rintro _ _ _ ⟨rfl, rfl, rfl⟩
  dsimp only [app]
  refine k_unp 0 rfl ?_
  dsimp only [app, del]
  refine ac 6 (by kernel_rfl) (sl_cons (hG 0 rfl) sl_nil) ?_
  obtain ⟨r7, Hc8, H⟩ := bind_some' H
  refine k_call (c_meta_Other a0_t.m r7 Hc8) Tryz.call115 rfl rfl rfl [] [] rfl rfl (g0 rfl) rfl rfl ?_
  rintro _ _ _ ⟨rfl, rfl, rfl⟩
  dsimp only [app]
  refine a_run ft [7, 8] rfl (fun _ _ _ _ _ h => h) (by kernel_rfl) rfl ?_
  refine a_done (by kernel_rfl) (sl_end (by kernel_rfl) sl_nil) ?_
  refine q_then ?_
  refine s_seq ?_
  refine s_reg [0, 1, 2, 3, 4, 5] rfl ?_
  refine o_run ft [0] rfl rfl ?_
  obtain ⟨r9, Hc10, H⟩ := bind_some' H
  refine oc (k_call (c_ring_May fp0 a0_tg.b0 a0_t.part fl0 fl0g r9 Hc10) Tryz.call100 rfl rfl rfl [] [1, 3] rfl rfl (g0 rfl) rfl rfl ?_)
  rintro _ _ _ ⟨rfl, rfl, rfl⟩
  dsimp only [app]
  refine o_run ft [2] rfl rfl ?_
  refine o_pu rfl (ev_build (cs := FactS.cells (⟨false, false, (Arr.zero 0 32), (!r9)⟩ : FactS)) rfl rfl Tryz.zeroValue60 Tryz.runUnderlying60 pl60 (show Instr.fill _ (FactS.cells FactS.zero : List Value).toArray _ = some _ from (fill_cons rfl (s := [vb (!r9)]) rfl rfl (FactS.set_Worn _ (!r9)) fill_nil))) (g0 rfl) rfl rfl ?_
  refine oc (k_alloc rfl rfl Tryz.zeroValue60 (cs := FactS.cells FactS.zero) rfl (g0 rfl) rfl rfl ?_)
  intro b11
  refine oc (k_st (j := 0) rfl rfl rfl rfl (vs := FactS.cells (⟨false, false, (Arr.zero 0 32), (!r9)⟩ : FactS)) rfl (sz (FactS.len _) Tryz.sizeOf60) (FactS.sc _) 0 rfl (spl_all ((FactS.len _).trans (FactS.len _).symm)) rfl (g0 rfl) rfl ?_)
  refine o_nil ?_
  refine q_then ?_
  refine s_seq ?_
  refine s_seq ?_
  refine s_reg [0, 1] rfl ?_
  refine o_run ft [0] rfl rfl ?_
  refine o_ld (hG 5 rfl) rfl (ev_ld1 (j := 0) rfl rfl Tryz.isAgg3 (sub_nth (j := 0) rfl) rfl) (g0 rfl) rfl rfl ?_
  refine o_nil ?_
  refine q_then ?_
  refine s_block ?_
  refine s_seq ?_
  refine s_reg [0, 1] rfl ?_
  refine o_run ft [0, 1] rfl rfl ?_
  refine o_nil ?_
  refine q_then ?_
  refine k_pk (TenantT fp0 a0_tg a0_tp a0_t) rfl [0, 1] [3, 1] rfl rfl ?_
  refine q_join (fun (x14 : FactS) (y15 : Unit) => ⟨Sl E8 a0_tg.A3 a0_tg.c3 a0_t.c.Key :: Sl E8 a0_tg.A8 a0_tg.c8 a0_t.c.First :: Sl E8 a0_tg.A3 a0_tg.c3 a0_t.c.Key :: Sl E8 a0_tg.A8 a0_tg.c8 a0_t.c.First :: Sl E8 A1 c2 a1_q.Bytes :: D0, At b11 0 (FactS.cells x14) :: At b4 0 (FactS.cells FactS.zero) :: At b3 0 [vi a1_q.Kind, vi a1_q.N, .slice A1 a1_q.Bytes.length c2] :: TenantT fp0 a0_tg a0_tp a0_t :: FlashT fl0g fp0 fl0 :: G0, [(4, (.pointer (some ⟨b4, 0, none⟩))), (7, (.pointer (some ⟨b11, 0, none⟩)))]⟩) H ?_ ?_
  · intro x14 y15 H
    dsimp only
    refine q_block ?_
    refine q_then ?_
    refine s_seq ?_
    refine s_reg [0, 1] rfl ?_
    refine o_ld (hG 0 rfl) rfl (ev_ldN (j := 0) rfl rfl Tryz.isAgg60 (sz (FactS.len _) Tryz.sizeOf60) (sub_all _) rfl) (g0 rfl) rfl rfl ?_
    refine oc (k_st (j := 0) rfl rfl rfl rfl (vs := FactS.cells x14) rfl (sz (FactS.len _) Tryz.sizeOf60) (FactS.sc _) 1 rfl (spl_all ((FactS.len _).trans (FactS.len _).symm)) rfl (g0 rfl) rfl ?_)
    refine o_nil ?_
    refine q_then ?_
    refine s_ret ?_
    cases H
    exact q_end (rs_1 Tryz.results50 (rv_cell (j := 0) rfl (hG 1 rfl) Tryz.isAgg60 (sz (FactS.len _) Tryz.sizeOf60) (sub_all _) rfl)) ⟨rfl, rfl, rfl⟩ [] rfl 5 rfl [3, 3] rfl 3 rfl
  · intro J13 J13h H
    refine s_cond rfl ?_ ?_
    · intro hb16
      have H := cnd_t H hb16
      refine s_seq ?_
      refine s_reg [0, 1, 2, 3, 4, 5, 6, 7, 8, 9, 10] rfl ?_
      refine o_run ft [0] rfl rfl ?_
      refine o_ld (hG 4 rfl) rfl (ev_ld1 (j := 2) rfl rfl Tryz.isAgg22 (sub_nth (j := 2) rfl) rfl) (g0 rfl) rfl rfl ?_
      obtain ⟨r17, Hc18, H⟩ := bind_some' H
      refine oc (k_call (c_manifest_Read a1_q.Bytes A1 c2 r17 Hc18) Tryz.call116 rfl rfl rfl [4] [] rfl rfl (g0 rfl) rfl rfl ?_)
      rintro _ _ _ ⟨A19, c20, rfl, rfl, rfl⟩
      dsimp only [app]
      refine o_run ft [3, 4, 5, 6] rfl rfl ?_
      refine oc (k_alloc rfl rfl Tryz.zeroValue103 (cs := Mani.cells Mani.zero) rfl (g0 rfl) rfl rfl ?_)
      intro b21
      refine oc (k_st (j := 0) rfl rfl rfl rfl (vs := Mani.cells r17.1) rfl (sz (Mani.len _) Tryz.sizeOf103) (Mani.sc _) 0 rfl (spl_all ((Mani.len _).trans (Mani.len _).symm)) rfl (g0 rfl) rfl ?_)
      refine o_run ft [9, 10] rfl rfl ?_
      refine o_nil ?_
      refine q_then ?_
      refine s_seq ?_
      refine q_join (fun (x23 : FactS) (y24 : Unit) => ⟨Sl E8 A19 c20 r17.2.1 :: Sl E8 a0_tg.A3 a0_tg.c3 a0_t.c.Key :: Sl E8 a0_tg.A8 a0_tg.c8 a0_t.c.First :: Sl E8 a0_tg.A3 a0_tg.c3 a0_t.c.Key :: Sl E8 a0_tg.A8 a0_tg.c8 a0_t.c.First :: Sl E8 A1 c2 a1_q.Bytes :: D0, At b21 0 (Mani.cells r17.1) :: At b11 0 (FactS.cells x23) :: At b4 0 (FactS.cells FactS.zero) :: At b3 0 [vi a1_q.Kind, vi a1_q.N, .slice A1 a1_q.Bytes.length c2] :: TenantT fp0 a0_tg a0_tp a0_t :: FlashT fl0g fp0 fl0 :: Spare A19 r17.2.1.length c20 1 :: G0, [(0, (.pointer (some ⟨a0_tp, 0, none⟩))), (3, (.pointer (some ⟨b3, 0, none⟩))), (4, (.pointer (some ⟨b4, 0, none⟩))), (7, (.pointer (some ⟨b11, 0, none⟩)))]⟩) H ?_ ?_
      · intro x23 y24 H
        dsimp only
        refine q_then ?_
        refine k_unp 4 rfl ?_
        dsimp only [app, del]
        refine s_draw mixed [(4, [7, 9], Has a0_tp 0 ([.iface 81 (.pointer (some ⟨a0_tg.b0, 0, none⟩))] ++ (CapS.cells a0_t.cap ++ ([vs a0_t.c.Name, .slice a0_tg.A3 a0_t.c.Key.length a0_tg.c3, vi a0_t.c.Slot, vi a0_t.c.Budget, vi a0_t.c.Quota, vi a0_t.c.Rights, .slice a0_tg.A8 a0_t.c.First.length a0_tg.c8] ++ (MetaS.cells a0_t.m))))), (6, [7, 9], Has b3 0 [vi a1_q.Kind, vi a1_q.N, .slice A1 a1_q.Bytes.length c2])] ?_
        refine a_run ft [0, 1, 2, 3] rfl (fun _ _ _ _ _ h => h) (by kernel_rfl) rfl ?_
        refine a_l1 4 0 rfl (by kernel_rfl) rfl (ev_ld1 (j := 5) rfl rfl Tryz.isAgg22 (sub_skip (n := 1) (sub_skip (n := 3) (sub_head (sub_nth (j := 1) rfl)) (CapS.len _) rfl) rfl rfl) rfl) (fun _ _ _ h => h) (g0 rfl) rfl rfl ?_
        refine a_run ft [5] rfl (fun _ _ _ _ _ h => h) (by kernel_rfl) rfl ?_
        refine a_l1 6 1 rfl (by kernel_rfl) rfl (ev_ld1 (j := 2) rfl rfl Tryz.isAgg22 (sub_nth (j := 2) rfl) rfl) (fun _ _ _ h => h) (g0 rfl) rfl rfl ?_
        refine ac 7 (by kernel_rfl) (sl_cons (hG 0 rfl) (sl_cons (hG 5 rfl) sl_nil)) ?_
        obtain ⟨r25, Hc26, H⟩ := bind_some' H
        refine k_call (c_manifest_Signed a0_t.c.Key a0_tg.A3 a0_tg.c3 a1_q.Bytes A1 c2 r25 Hc26) Tryz.call117 rfl rfl rfl [7, 0] [] rfl rfl (g0 rfl) rfl rfl ?_
        rintro _ _ _ ⟨rfl, rfl, rfl⟩
        dsimp only [app]
        refine a_run ft [8] rfl (fun _ _ _ _ _ h => h) (by kernel_rfl) rfl ?_
        refine ac 9 (by kernel_rfl) (sl_end (by kernel_rfl) (sl_end (by kernel_rfl) sl_nil)) ?_
        refine k_st (j := 1) rfl rfl rfl rfl (vs := [vb r25]) rfl (sz rfl Tryz.sizeOf4) rfl 3 rfl (FactS.set_Tag _ r25) rfl (g0 rfl) rfl ?_
        refine a_done (by kernel_rfl) (sl_end (by kernel_rfl) (sl_end (by kernel_rfl) sl_nil)) ?_
        refine k_pk (TenantT fp0 a0_tg a0_tp a0_t) rfl [0, 1] [0, 0] rfl rfl ?_
        exact k_wk (J13h ({ (x23 : FactS) with Tag := r25 }) () H) [4, 7] [0, 1, 0, 1, 7] 8 [2, 2, 2, 0, 1] 2 rfl rfl rfl
      · intro J22 J22h H
        refine k_unp 2 rfl ?_
        dsimp only [app, del]
        refine s_draw mixed [(4, [13], Has b21 0 (Mani.cells r17.1)), (9, [13], Has a0_tp 0 ([.iface 81 (.pointer (some ⟨a0_tg.b0, 0, none⟩))] ++ (CapS.cells a0_t.cap ++ ([vs a0_t.c.Name, .slice a0_tg.A3 a0_t.c.Key.length a0_tg.c3, vi a0_t.c.Slot, vi a0_t.c.Budget, vi a0_t.c.Quota, vi a0_t.c.Rights, .slice a0_tg.A8 a0_t.c.First.length a0_tg.c8] ++ (MetaS.cells a0_t.m)))))] ?_
        refine a_run ft [0, 1, 2] rfl (fun _ _ _ _ _ h => h) (by kernel_rfl) rfl ?_
        refine k_name 35 rfl ?_
        intro b27 hb28
        have H := bnd_eq H hb28
        cases b27 with
        | true =>
          rw [cond_true] at H
          refine a_run ft [3] rfl (fun _ _ _ _ _ h => h) (by kernel_rfl) rfl ?_
          refine a_l1 4 0 rfl (by kernel_rfl) rfl (ev_ld1 (j := 0) rfl rfl Tryz.isAgg9 (Mani.sub_Name _) rfl) (fun _ _ _ h => h) (g1 rfl rfl rfl rfl) rfl rfl ?_
          refine a_run ft [5, 6, 7, 8] rfl (fun _ _ _ _ _ h => h) (by kernel_rfl) rfl ?_
          refine a_l1 9 1 rfl (by kernel_rfl) rfl (ev_ld1 (j := 4) rfl rfl Tryz.isAgg9 (sub_skip (n := 1) (sub_skip (n := 3) (sub_head (sub_nth (j := 0) rfl)) (CapS.len _) rfl) rfl rfl) rfl) (fun _ _ _ h => h) (g1 rfl rfl rfl rfl) rfl rfl ?_
          refine a_p1 10 (by kernel_rfl) rfl (ev_bin rfl rfl rfl rfl (eql_s _ _)) (fun _ _ _ h => h) (g1 rfl rfl rfl rfl) rfl rfl ?_
          refine a_run ft [11, 12] rfl (fun _ _ _ _ _ h => h) (by kernel_rfl) rfl ?_
          refine ac 13 (by kernel_rfl) (sl_cons (hG 2 rfl) (sl_cons (hG 0 rfl) sl_nil)) ?_
          refine k_st (j := 0) rfl rfl rfl rfl (vs := [vb (r17.1.Name == a0_t.c.Name)]) rfl (sz rfl Tryz.sizeOf4) rfl 4 rfl (FactS.set_Name _ (r17.1.Name == a0_t.c.Name)) rfl (g0 rfl) rfl ?_
          obtain ⟨x29, hx30⟩ : ∃ x, x = ({ ((⟨false, false, (Arr.zero 0 32), (!r9)⟩ : FactS) : FactS) with Name := (r17.1.Name == a0_t.c.Name) }) := ⟨_, rfl⟩
          have H := bnd_eq H hx30
          refine k_tok 4 (A' := At b11 0 (FactS.cells x29)) rfl (by rw [hx30]) ?_
          refine a_done (by kernel_rfl) (sl_end (by kernel_rfl) (sl_end (by kernel_rfl) sl_nil)) ?_
          refine k_pk (TenantT fp0 a0_tg a0_tp a0_t) rfl [0, 1] [0, 0] rfl rfl ?_
          exact k_wk (J22h x29 () H) [0, 3, 4, 7] [2, 0, 1, 0, 1, 7] 8 [1, 2, 3, 3, 0, 1, 0] 0 rfl rfl rfl
        | false =>
          rw [cond_false] at H
          refine a_run ft [3, 4, 5, 6, 7, 8, 9, 10, 11, 12] rfl (fun _ _ _ _ _ h => h) (by kernel_rfl) rfl ?_
          refine ac 13 (by kernel_rfl) (sl_cons (hG 2 rfl) (sl_cons (hG 0 rfl) sl_nil)) ?_
          refine k_st (j := 0) rfl rfl rfl rfl (vs := [vb false]) rfl (sz rfl Tryz.sizeOf4) rfl 4 rfl (FactS.set_Name _ false) rfl (g0 rfl) rfl ?_
          refine a_done (by kernel_rfl) (sl_end (by kernel_rfl) (sl_end (by kernel_rfl) sl_nil)) ?_
          refine k_pk (TenantT fp0 a0_tg a0_tp a0_t) rfl [0, 1] [0, 0] rfl rfl ?_
          exact k_wk (J22h ({ ((⟨false, false, (Arr.zero 0 32), (!r9)⟩ : FactS) : FactS) with Name := false }) () H) [0, 3, 4, 7] [2, 0, 1, 0, 1, 7] 8 [1, 2, 3, 3, 0, 1, 0] 0 rfl rfl rfl
    · intro hb16
      have H := cnd_f H hb16
      refine s_seq ?_
      refine s_reg [0, 1] rfl ?_
      refine o_run ft [0, 1] rfl rfl ?_
      refine o_nil ?_
      refine q_then ?_
      refine s_cond rfl ?_ ?_
      · intro hb31
        have H := cnd_t H hb31
        refine q_join (fun (x33 : FactS) (y34 : Unit) => ⟨Sl E8 a0_tg.A3 a0_tg.c3 a0_t.c.Key :: Sl E8 a0_tg.A8 a0_tg.c8 a0_t.c.First :: Sl E8 a0_tg.A3 a0_tg.c3 a0_t.c.Key :: Sl E8 a0_tg.A8 a0_tg.c8 a0_t.c.First :: Sl E8 A1 c2 a1_q.Bytes :: D0, At b11 0 (FactS.cells x33) :: At b4 0 (FactS.cells FactS.zero) :: At b3 0 [vi a1_q.Kind, vi a1_q.N, .slice A1 a1_q.Bytes.length c2] :: TenantT fp0 a0_tg a0_tp a0_t :: FlashT fl0g fp0 fl0 :: G0, [(4, (.pointer (some ⟨b4, 0, none⟩))), (7, (.pointer (some ⟨b11, 0, none⟩)))]⟩) H ?_ ?_
        · intro x33 y34 H
          dsimp only
          exact k_wk (J13h x33 () H) [4, 7] [0, 1, 0, 1, 4] 5 [0, 0, 0, 0, 0] 0 rfl rfl rfl
        · intro J32 J32h H
          refine k_unp 0 rfl ?_
          dsimp only [app, del]
          refine s_draw mixed [(1, [16], Has b11 0 (FactS.cells (⟨false, false, (Arr.zero 0 32), (!r9)⟩ : FactS))), (6, [16], Has b3 0 [vi a1_q.Kind, vi a1_q.N, .slice A1 a1_q.Bytes.length c2]), (11, [16], Has a0_tp 0 ([.iface 81 (.pointer (some ⟨a0_tg.b0, 0, none⟩))] ++ (CapS.cells a0_t.cap ++ ([vs a0_t.c.Name, .slice a0_tg.A3 a0_t.c.Key.length a0_tg.c3, vi a0_t.c.Slot, vi a0_t.c.Budget, vi a0_t.c.Quota, vi a0_t.c.Rights, .slice a0_tg.A8 a0_t.c.First.length a0_tg.c8] ++ (MetaS.cells a0_t.m)))))] ?_
          refine a_run ft [0] rfl (fun _ _ _ _ _ h => h) (by kernel_rfl) rfl ?_
          refine a_l1 1 0 rfl (by kernel_rfl) rfl (ev_ld1 (j := 34) rfl rfl Tryz.isAgg4 (FactS.sub_Worn _) rfl) (fun _ _ _ h => h) (g0 rfl) rfl rfl ?_
          refine a_run ft [2] rfl (fun _ _ _ _ _ h => h) (by kernel_rfl) rfl ?_
          refine k_name 59 rfl ?_
          intro b35 hb36
          have H := bnd_eq H hb36
          cases b35 with
          | true =>
            rw [cond_true] at H
            refine a_run ft [3, 4, 5, 6, 7, 8, 9, 10, 11, 12, 13, 14, 15] rfl (fun _ _ _ _ _ h => h) (by kernel_rfl) rfl ?_
            refine ac 16 (by kernel_rfl) (sl_cons (hG 2 rfl) (sl_cons (hG 5 rfl) (sl_cons (hG 0 rfl) sl_nil))) ?_
            refine k_st (j := 34) rfl rfl rfl rfl (vs := [vb true]) rfl (sz rfl Tryz.sizeOf4) rfl 2 rfl (FactS.set_Worn _ true) rfl (g0 rfl) rfl ?_
            refine a_done (by kernel_rfl) (sl_end (by kernel_rfl) (sl_end (by kernel_rfl) (sl_end (by kernel_rfl) sl_nil))) ?_
            refine k_pk (TenantT fp0 a0_tg a0_tp a0_t) rfl [0, 1] [0, 0] rfl rfl ?_
            exact k_wk (J32h ({ ((⟨false, false, (Arr.zero 0 32), (!r9)⟩ : FactS) : FactS) with Worn := true }) () H) [4, 7] [0, 1, 0, 1, 6] 7 [1, 2, 2, 0, 0] 0 rfl rfl rfl
          | false =>
            rw [cond_false] at H
            refine a_run ft [3, 4, 5] rfl (fun _ _ _ _ _ h => h) (by kernel_rfl) rfl ?_
            refine a_l1 6 1 rfl (by kernel_rfl) rfl (ev_ld1 (j := 1) rfl rfl Tryz.isAgg3 (sub_nth (j := 1) rfl) rfl) (fun _ _ _ h => h) (g1 rfl rfl rfl rfl) rfl rfl ?_
            refine a_run ft [7, 8, 9, 10] rfl (fun _ _ _ _ _ h => h) (by kernel_rfl) rfl ?_
            refine a_l1 11 2 rfl (by kernel_rfl) rfl (ev_ld1 (j := 6) rfl rfl Tryz.isAgg3 (sub_skip (n := 1) (sub_skip (n := 3) (sub_head (sub_nth (j := 2) rfl)) (CapS.len _) rfl) rfl rfl) rfl) (fun _ _ _ h => h) (g1 rfl rfl rfl rfl) rfl rfl ?_
            refine ac 12 (by kernel_rfl) (sl_cons (hG 2 rfl) (sl_cons (hG 5 rfl) (sl_cons (hG 0 rfl) sl_nil))) ?_
            obtain ⟨r37, Hc38, H⟩ := bind_some' H
            refine k_call (c_slot_May fp0 a0_tg.b0 a0_t.part r7 a1_q.N a0_t.c.Slot fl0 fl0g r37 Hc38) Tryz.call94 rfl rfl rfl [] [1, 2] rfl rfl (g1 rfl rfl rfl rfl) rfl rfl ?_
            rintro _ _ _ ⟨rfl, rfl, rfl⟩
            dsimp only [app]
            refine a_run ft [13, 14, 15] rfl (fun _ _ _ _ _ h => h) (by kernel_rfl) rfl ?_
            refine ac 16 (by kernel_rfl) (sl_cons (hG 3 rfl) (sl_cons (hG 5 rfl) (sl_cons (hG 2 rfl) sl_nil))) ?_
            refine k_st (j := 34) rfl rfl rfl rfl (vs := [vb (!r37)]) rfl (sz rfl Tryz.sizeOf4) rfl 3 rfl (FactS.set_Worn _ (!r37)) rfl (g0 rfl) rfl ?_
            refine a_done (by kernel_rfl) (sl_end (by kernel_rfl) (sl_end (by kernel_rfl) (sl_end (by kernel_rfl) sl_nil))) ?_
            refine k_pk (TenantT fp0 a0_tg a0_tp a0_t) rfl [0, 1] [2, 0] rfl rfl ?_
            exact k_wk (J32h ({ ((⟨false, false, (Arr.zero 0 32), (!r9)⟩ : FactS) : FactS) with Worn := (!r37) }) () H) [4, 7] [0, 1, 0, 1, 6] 7 [2, 2, 2, 0, 0] 0 rfl rfl rfl
      · intro hb31
        have H := cnd_f H hb31
        refine s_seq ?_
        refine s_reg [0, 1] rfl ?_
        refine o_run ft [0, 1] rfl rfl ?_
        refine o_nil ?_
        refine q_then ?_
        refine s_cond rfl ?_ ?_
        · intro hb39
          have H := cnd_t H hb39
          refine k_unp 0 rfl ?_
          dsimp only [app, del]
          refine s_draw mixed [(6, [13, 15], Has a0_tp 0 ([.iface 81 (.pointer (some ⟨a0_tg.b0, 0, none⟩))] ++ (CapS.cells a0_t.cap ++ ([vs a0_t.c.Name, .slice a0_tg.A3 a0_t.c.Key.length a0_tg.c3, vi a0_t.c.Slot, vi a0_t.c.Budget, vi a0_t.c.Quota, vi a0_t.c.Rights, .slice a0_tg.A8 a0_t.c.First.length a0_tg.c8] ++ (MetaS.cells a0_t.m))))), (12, [13, 15], Has a0_tp 0 ([.iface 81 (.pointer (some ⟨a0_tg.b0, 0, none⟩))] ++ (CapS.cells a0_t.cap ++ ([vs a0_t.c.Name, .slice a0_tg.A3 a0_t.c.Key.length a0_tg.c3, vi a0_t.c.Slot, vi a0_t.c.Budget, vi a0_t.c.Quota, vi a0_t.c.Rights, .slice a0_tg.A8 a0_t.c.First.length a0_tg.c8] ++ (MetaS.cells a0_t.m)))))] ?_
          refine a_run ft [0, 1, 2, 3, 4, 5] rfl (fun _ _ _ _ _ h => h) (by kernel_rfl) rfl ?_
          refine a_l1 6 0 rfl (by kernel_rfl) rfl (ev_ld1 (j := 6) rfl rfl Tryz.isAgg3 (sub_skip (n := 1) (sub_skip (n := 3) (sub_head (sub_nth (j := 2) rfl)) (CapS.len _) rfl) rfl rfl) rfl) (fun _ _ _ h => h) (g0 rfl) rfl rfl ?_
          refine a_run ft [7, 8, 9, 10, 11] rfl (fun _ _ _ _ _ h => h) (by kernel_rfl) rfl ?_
          refine a_l1 12 1 rfl (by kernel_rfl) rfl (ev_ld1 (j := 83) rfl rfl Tryz.isAgg3 (sub_skip (n := 1) (sub_skip (n := 3) (sub_skip (n := 7) (sub_sub (MetaS.sub_Coming _) (Img.sub_Size _) rfl) rfl rfl) (CapS.len _) rfl) rfl rfl) rfl) (fun _ _ _ h => h) (g0 rfl) rfl rfl ?_
          refine ac 13 (by kernel_rfl) (sl_cons (hG 0 rfl) (sl_cons (hG 0 rfl) sl_nil)) ?_
          obtain ⟨r40, Hc41, H⟩ := bind_some' H
          refine k_call (c_slot_Digest fp0 a0_tg.b0 a0_t.part r7 a0_t.c.Slot a0_t.m.Coming.Size fl0 fl0g r40 Hc41) Tryz.call118 rfl rfl rfl [] [1, 2] rfl rfl (g0 rfl) rfl rfl ?_
          rintro _ _ _ ⟨rfl, rfl, rfl⟩
          dsimp only [app]
          refine a_run ft [14] rfl (fun _ _ _ _ _ h => h) (by kernel_rfl) rfl ?_
          refine ac 15 (by kernel_rfl) (sl_end (by kernel_rfl) (sl_end (by kernel_rfl) sl_nil)) ?_
          refine k_st (j := 2) rfl rfl rfl rfl (vs := r40.l.flatMap E8) rfl (sz (arr_len E8_len _ rfl) Tryz.sizeOf45) (arr_sc E8_one _) 3 rfl (FactS.set_Digest _ r40) rfl (g0 rfl) rfl ?_
          refine a_done (by kernel_rfl) (sl_end (by kernel_rfl) (sl_end (by kernel_rfl) sl_nil)) ?_
          refine k_pk (TenantT fp0 a0_tg a0_tp a0_t) rfl [0, 1] [2, 0] rfl rfl ?_
          exact k_wk (J13h ({ ((⟨false, false, (Arr.zero 0 32), (!r9)⟩ : FactS) : FactS) with Digest := r40 }) () H) [4, 7] [0, 1, 0, 1, 6] 7 [2, 2, 2, 0, 0] 0 rfl rfl rfl
        · intro hb39
          have H := cnd_f H hb39
          refine s_skip ?_
          exact k_wk (J13h (⟨false, false, (Arr.zero 0 32), (!r9)⟩ : FactS) () H) [4, 7] [0, 1, 0, 1, 4] 5 [1, 2, 2, 0, 0] 0 rfl rfl rfl

end Go.Proofs.YtpdoioeckiiegaaGreatDoor.Wl
