import Derived.Test.YtpdoioeckiiegaaGreatDoorWlW
import Derived.Test.YtpdoioeckiiegaaGreatDoorWlX1
import Derived.Test.YtpdoioeckiiegaaGreatDoorWlX9
set_option linter.unusedSimpArgs false
set_option linter.unusedVariables false
set_option maxRecDepth 10000
namespace Go.Proofs.YtpdoioeckiiegaaGreatDoor.Wl
open Go.RowKit Go.Proofs
def sha_mix_l0 (x486 : Arr UInt32 8) (J488 : (Arr UInt32 8) → Option (Arr UInt32 8)) : Nat → (Int × Arr UInt32 8) → Option (Arr UInt32 8)
  | 0, _ => none
  | k491 + 1, s491 =>
    bif (decide (s491.1 < 8)) then (
    chk (0 ≤ s491.1 ∧ s491.1 < 8) <|
    chk (0 ≤ s491.1 ∧ s491.1 < 8) <|
    chk (0 ≤ s491.1 ∧ s491.1 < 8) <|
    sha_mix_l0 x486 J488 k491 ((wrap64 (s491.1 + 1)), (Arr.set s491.2 s491.1 ((at' 0 s491.2.l s491.1) + (at' 0 x486.l s491.1))))) else (
    J488 s491.2)

def sha_mix_l1 (r85 : (Arr UInt32 64)) (r125 : (Arr UInt32 64)) (J485 : (Arr UInt32 8) → Option (Arr UInt32 8)) : Nat → (Int × Arr UInt32 8) → Option (Arr UInt32 8)
  | 0, _ => none
  | k496 + 1, s496 =>
    bif (decide (s496.1 < 64)) then (
    chk (0 ≤ s496.1 ∧ s496.1 < 64) <|
    chk (0 ≤ s496.1 ∧ s496.1 < 64) <|
    (sha_round s496.2 ((at' 0 r125.l s496.1) + (at' 0 r85.l s496.1))).bind fun r500 =>
    sha_mix_l1 r85 r125 J485 k496 ((wrap64 (s496.1 + 1)), r500)) else (
    J485 s496.2)

def sha_mix (a0_h : Arr UInt32 8) (a1_b : List UInt8) : Option (Arr UInt32 8) :=
(sha_spread a1_b).bind fun r85 =>
(sha_constants ).bind fun r125 =>
jn (fun (x486 : Arr UInt32 8) =>
jn (fun (x489 : Arr UInt32 8) =>
some x489) fun J488 =>
sha_mix_l0 x486 J488 Fuel (0, a0_h)) fun J485 =>
sha_mix_l1 r85 r125 J485 Fuel (0, a0_h)

theorem c_sha_mix (a0_h : Arr UInt32 8) (a1_b : List UInt8) (A1 : Option Addr) (c2 : Nat) (r : (Arr UInt32 8)) (H : sha_mix a0_h a1_b = some r) : Fn Tryz.prog 149 [(.agg (a0_h.l.flatMap E32).toArray), (.slice A1 a1_b.length c2)] [Sl E8 A1 c2 a1_b] [] (fun v D' G' => v = (.agg (r.l.flatMap E32).toArray) ∧ D' = [] ∧ G' = []) := by
  unfold sha_mix at H
  refine fn_of Tryz.func149 rfl Tryz.ntmps149 rfl ?_
  intro w0 D0 G0
  dsimp only [app, initEnv, Nat.zero_add, Nat.reduceAdd]
  refine s_seq ?_
  refine s_reg [0, 1] rfl ?_
  refine oc (k_box rfl rfl rfl (cs := a0_h.l.flatMap E32) rfl (g0 rfl) rfl rfl ?_)
  intro b3
  refine oc (k_alloc rfl rfl Tryz.zeroValue176 (cs := (Arr.zero 0 8 : Arr UInt32 8).l.flatMap E32) rfl (g0 rfl) rfl rfl ?_)
  intro b4
  refine o_nil ?_
  refine q_then ?_
  refine s_seq ?_
  obtain ⟨r85, Hc86, H⟩ := bind_some' H
  obtain ⟨r125, Hc126, H⟩ := bind_some' H
  refine s_draw mixed [] ?_
  refine wa_loc fun R to fro => to ?_
  have hN4_9 : ∀ (b205 : Nat), ∀ (b245 : Nat), ∀ (b285 : Nat), (jn (fun (x486 : Arr UInt32 8) => jn (fun (x489 : Arr UInt32 8) => some x489) fun J488 => sha_mix_l0 x486 J488 Fuel (0, a0_h)) fun J485 => sha_mix_l1 r85 r125 J485 Fuel (0, a0_h)) = some r → R (Sl E8 A1 c2 a1_b :: D0) (At b205 0 (r85.l.flatMap E32) :: At b245 0 (r125.l.flatMap E32) :: At b285 0 (a0_h.l.flatMap E32) :: At b3 0 (a0_h.l.flatMap E32) :: At b4 0 ((Arr.zero 0 8 : Arr UInt32 8).l.flatMap E32) :: G0) [(2, (.pointer (some ⟨b3, 0, none⟩))), (4, (.pointer (some ⟨b4, 0, none⟩))), (5, (.pointer (some ⟨b205, 0, none⟩))), (6, (.pointer (some ⟨b245, 0, none⟩))), (7, (.pointer (some ⟨b285, 0, none⟩)))] 0 #[true, true, true, true, true, true, true, true, true, true] := by
    intro b205 b245 b285 H
    refine to ?_
    refine a_done (by kernel_rfl) sl_nil ?_
    refine q_then ?_
    refine s_seq ?_
    refine s_seq ?_
    refine s_reg [0] rfl ?_
    refine o_run ft [0] rfl rfl ?_
    refine o_nil ?_
    refine q_then ?_
    refine q_join (fun (x486 : Arr UInt32 8) (y487 : Unit) => ⟨Sl E8 A1 c2 a1_b :: D0, At b205 0 (r85.l.flatMap E32) :: At b245 0 (r125.l.flatMap E32) :: At b285 0 (x486.l.flatMap E32) :: At b3 0 (a0_h.l.flatMap E32) :: At b4 0 ((Arr.zero 0 8 : Arr UInt32 8).l.flatMap E32) :: G0, [(2, (.pointer (some ⟨b3, 0, none⟩))), (4, (.pointer (some ⟨b4, 0, none⟩))), (7, (.pointer (some ⟨b285, 0, none⟩)))]⟩) H ?_ ?_
    · intro x486 y487 H
      dsimp only
      refine q_then ?_
      refine s_seq ?_
      refine s_seq ?_
      refine s_reg [0] rfl ?_
      refine o_run ft [0] rfl rfl ?_
      refine o_nil ?_
      refine q_then ?_
      refine q_join (fun (x489 : Arr UInt32 8) (y490 : Unit) => ⟨Sl E8 A1 c2 a1_b :: D0, At b205 0 (r85.l.flatMap E32) :: At b245 0 (r125.l.flatMap E32) :: At b285 0 (x486.l.flatMap E32) :: At b3 0 (x489.l.flatMap E32) :: At b4 0 ((Arr.zero 0 8 : Arr UInt32 8).l.flatMap E32) :: G0, [(2, (.pointer (some ⟨b3, 0, none⟩))), (4, (.pointer (some ⟨b4, 0, none⟩)))]⟩) H ?_ ?_
      · intro x489 y490 H
        dsimp only
        refine q_then ?_
        refine s_seq ?_
        refine s_reg [0, 1] rfl ?_
        refine o_ld (hG 3 rfl) rfl (ev_ldN (j := 0) rfl rfl Tryz.isAgg176 (sz (arr_len E32_len _ rfl) Tryz.sizeOf176) (sub_all _) rfl) (g0 rfl) rfl rfl ?_
        refine oc (k_st (j := 0) rfl rfl rfl rfl (vs := x489.l.flatMap E32) rfl (sz (arr_len E32_len _ rfl) Tryz.sizeOf176) (arr_sc E32_one _) 4 rfl (spl_all ((arr_len E32_len _ rfl).trans (arr_len E32_len _ rfl).symm)) rfl (g0 rfl) rfl ?_)
        refine o_nil ?_
        refine q_then ?_
        refine s_ret ?_
        cases H
        exact q_end (rs_1 Tryz.results149 (rv_cell (j := 0) rfl (hG 4 rfl) Tryz.isAgg176 (sz (arr_len E32_len _ rfl) Tryz.sizeOf176) (sub_all _) rfl)) ⟨rfl, rfl, rfl⟩ [] rfl 1 rfl [] rfl 5 rfl
      · intro J488 J488h H
        refine s_block ?_
        refine s_loop (k_wk (loop_ind (fun (s491 : Int × Arr UInt32 8) (y491 : Unit) => ⟨Sl E8 A1 c2 a1_b :: D0, At b205 0 (r85.l.flatMap E32) :: At b245 0 (r125.l.flatMap E32) :: At b285 0 (x486.l.flatMap E32) :: At b3 0 (s491.2.l.flatMap E32) :: At b4 0 ((Arr.zero 0 8 : Arr UInt32 8).l.flatMap E32) :: G0, [(2, (.pointer (some ⟨b3, 0, none⟩))), (4, (.pointer (some ⟨b4, 0, none⟩))), (7, (.pointer (some ⟨b285, 0, none⟩))), (27, (vi s491.1))]⟩) (sha_mix_l0 x486 J488) _ (fun _ => rfl) ?_ Fuel (0, a0_h) () H) [2, 4, 7, 27] [0] 1 [0, 0, 0, 0, 0] 0 rfl rfl rfl)
        intro k491 s491 y491 ih H
        dsimp only
        rw [sha_mix_l0] at H
        refine s_seq ?_
        refine s_reg [0] rfl ?_
        refine o_run ft [0] rfl rfl ?_
        refine o_nil ?_
        refine q_then ?_
        refine s_seq ?_
        refine s_cond rfl ?_ ?_
        · intro hb492
          have H := cnd_t H hb492
          refine s_skip ?_
          refine q_then ?_
          refine s_seq ?_
          refine s_block ?_
          refine s_seq ?_
          refine s_reg [0, 1] rfl ?_
          refine o_run ft [0, 1] rfl rfl ?_
          refine o_nil ?_
          refine q_then ?_
          refine s_draw mixed [(2, [8], Has b3 0 (s491.2.l.flatMap E32)), (5, [8], Has b285 0 (x486.l.flatMap E32))] ?_
          refine a_run ft [0] rfl (fun _ _ _ _ _ h => h) (by kernel_rfl) rfl ?_
          obtain ⟨hk493, H⟩ := chk_some H
          refine a_p1 1 (by kernel_rfl) rfl (ev_idx_array rfl rfl rfl Tryz.runUnderlying176 Tryz.sizeOf141 hk493 rfl) (fun _ _ _ h => h) (g0 rfl) rfl rfl ?_
          refine a_l1 2 0 rfl (by kernel_rfl) rfl (ev_ld1 rfl rfl Tryz.isAgg141 (sub_arr E32_len 0 _ (k := s491.1) hk493 rfl) (by omega)) (fun _ _ _ h => h) (g0 rfl) rfl rfl ?_
          refine a_run ft [3] rfl (fun _ _ _ _ _ h => h) (by kernel_rfl) rfl ?_
          obtain ⟨hk494, H⟩ := chk_some H
          refine a_p1 4 (by kernel_rfl) rfl (ev_idx_array rfl rfl rfl Tryz.runUnderlying176 Tryz.sizeOf141 hk494 rfl) (fun _ _ _ h => h) (g0 rfl) rfl rfl ?_
          refine a_l1 5 1 rfl (by kernel_rfl) rfl (ev_ld1 rfl rfl Tryz.isAgg141 (sub_arr E32_len 0 _ (k := s491.1) hk494 rfl) (by omega)) (fun _ _ _ h => h) (g0 rfl) rfl rfl ?_
          refine a_p1 6 (by kernel_rfl) rfl (ev_bin rfl rfl rfl rfl (add_32 _ _)) (fun _ _ _ h => h) (g0 rfl) rfl rfl ?_
          obtain ⟨hk495, H⟩ := chk_some H
          refine a_p1 7 (by kernel_rfl) rfl (ev_idx_array rfl rfl rfl Tryz.runUnderlying176 Tryz.sizeOf141 hk495 rfl) (fun _ _ _ h => h) (g0 rfl) rfl rfl ?_
          refine ac 8 (by kernel_rfl) (sl_cons (hG 3 rfl) (sl_cons (hG 2 rfl) sl_nil)) ?_
          refine k_st rfl rfl rfl rfl (vs := [v32 ((at' 0 s491.2.l s491.1) + (at' 0 x486.l s491.1))]) rfl (sz rfl Tryz.sizeOf141) rfl 3 rfl (spl_arr E32_len _ (k := s491.1) _ hk495 rfl) (by omega) (g0 rfl) rfl ?_
          refine a_done (by kernel_rfl) (sl_end (by kernel_rfl) (sl_end (by kernel_rfl) sl_nil)) ?_
          refine q_block ?_
          refine q_then ?_
          refine s_reg [0, 1] rfl ?_
          refine o_run ft [0, 1] rfl rfl ?_
          refine o_nil ?_
          refine q_loop ?_
          exact k_wk (ih ((wrap64 (s491.1 + 1)), (Arr.set s491.2 s491.1 ((at' 0 s491.2.l s491.1) + (at' 0 x486.l s491.1)))) () H) [2, 4, 7, 27] [0] 1 [0, 0, 0, 0, 0] 0 rfl rfl rfl
        · intro hb492
          have H := cnd_f H hb492
          refine s_exit ?_
          refine q_then_x ?_
          refine q_then_x ?_
          refine q_block_x ?_
          exact k_wk (J488h s491.2 () H) [2, 4] [0] 1 [0, 0, 0, 0, 0] 0 rfl rfl rfl
    · intro J485 J485h H
      refine s_block ?_
      refine s_loop (k_wk (loop_ind (fun (s496 : Int × Arr UInt32 8) (y496 : Unit) => ⟨Sl E8 A1 c2 a1_b :: D0, At b205 0 (r85.l.flatMap E32) :: At b245 0 (r125.l.flatMap E32) :: At b285 0 (s496.2.l.flatMap E32) :: At b3 0 (a0_h.l.flatMap E32) :: At b4 0 ((Arr.zero 0 8 : Arr UInt32 8).l.flatMap E32) :: G0, [(2, (.pointer (some ⟨b3, 0, none⟩))), (4, (.pointer (some ⟨b4, 0, none⟩))), (5, (.pointer (some ⟨b205, 0, none⟩))), (6, (.pointer (some ⟨b245, 0, none⟩))), (7, (.pointer (some ⟨b285, 0, none⟩))), (14, (vi s496.1))]⟩) (sha_mix_l1 r85 r125 J485) _ (fun _ => rfl) ?_ Fuel (0, a0_h) () H) [2, 4, 5, 6, 7, 14] [0] 1 [0, 0, 0, 0, 0] 0 rfl rfl rfl)
      intro k496 s496 y496 ih H
      dsimp only
      rw [sha_mix_l1] at H
      refine s_seq ?_
      refine s_reg [0] rfl ?_
      refine o_run ft [0] rfl rfl ?_
      refine o_nil ?_
      refine q_then ?_
      refine s_seq ?_
      refine s_cond rfl ?_ ?_
      · intro hb497
        have H := cnd_t H hb497
        refine s_skip ?_
        refine q_then ?_
        refine s_seq ?_
        refine s_block ?_
        refine s_seq ?_
        refine s_reg [0, 1] rfl ?_
        refine o_run ft [0, 1] rfl rfl ?_
        refine o_nil ?_
        refine q_then ?_
        refine s_draw mixed [(0, [8, 9], Has b285 0 (s496.2.l.flatMap E32)), (3, [9], Has b245 0 (r125.l.flatMap E32)), (6, [9], Has b205 0 (r85.l.flatMap E32))] ?_
        refine a_l1 0 0 rfl (by kernel_rfl) rfl (ev_ldN (j := 0) rfl rfl Tryz.isAgg176 (sz (arr_len E32_len _ rfl) Tryz.sizeOf176) (sub_all _) rfl) (fun _ _ _ h => h) (g0 rfl) rfl rfl ?_
        refine a_run ft [1] rfl (fun _ _ _ _ _ h => h) (by kernel_rfl) rfl ?_
        obtain ⟨hk498, H⟩ := chk_some H
        refine a_p1 2 (by kernel_rfl) rfl (ev_idx_array rfl rfl rfl Tryz.runUnderlying224 Tryz.sizeOf141 hk498 rfl) (fun _ _ _ h => h) (g0 rfl) rfl rfl ?_
        refine a_l1 3 1 rfl (by kernel_rfl) rfl (ev_ld1 rfl rfl Tryz.isAgg141 (sub_arr E32_len 0 _ (k := s496.1) hk498 rfl) (by omega)) (fun _ _ _ h => h) (g0 rfl) rfl rfl ?_
        refine a_run ft [4] rfl (fun _ _ _ _ _ h => h) (by kernel_rfl) rfl ?_
        obtain ⟨hk499, H⟩ := chk_some H
        refine a_p1 5 (by kernel_rfl) rfl (ev_idx_array rfl rfl rfl Tryz.runUnderlying224 Tryz.sizeOf141 hk499 rfl) (fun _ _ _ h => h) (g0 rfl) rfl rfl ?_
        refine a_l1 6 2 rfl (by kernel_rfl) rfl (ev_ld1 rfl rfl Tryz.isAgg141 (sub_arr E32_len 0 _ (k := s496.1) hk499 rfl) (by omega)) (fun _ _ _ h => h) (g0 rfl) rfl rfl ?_
        refine a_p1 7 (by kernel_rfl) rfl (ev_bin rfl rfl rfl rfl (add_32 _ _)) (fun _ _ _ h => h) (g0 rfl) rfl rfl ?_
        refine ac 8 (by kernel_rfl) (sl_cons (hG 2 rfl) (sl_cons (hG 1 rfl) (sl_cons (hG 0 rfl) sl_nil))) ?_
        obtain ⟨r500, Hc501, H⟩ := bind_some' H
        refine k_call (c_sha_round s496.2 ((at' 0 r125.l s496.1) + (at' 0 r85.l s496.1)) r500 Hc501) Tryz.call202 rfl rfl rfl [] [] rfl rfl (g0 rfl) rfl rfl ?_
        rintro _ _ _ ⟨rfl, rfl, rfl⟩
        dsimp only [app]
        refine ac 9 (by kernel_rfl) (sl_end (by kernel_rfl) (sl_cons (hG 1 rfl) (sl_cons (hG 0 rfl) sl_nil))) ?_
        refine k_st (j := 0) rfl rfl rfl rfl (vs := r500.l.flatMap E32) rfl (sz (arr_len E32_len _ rfl) Tryz.sizeOf176) (arr_sc E32_one _) 2 rfl (spl_all ((arr_len E32_len _ rfl).trans (arr_len E32_len _ rfl).symm)) rfl (g0 rfl) rfl ?_
        refine a_done (by kernel_rfl) (sl_end (by kernel_rfl) (sl_end (by kernel_rfl) (sl_end (by kernel_rfl) sl_nil))) ?_
        refine q_block ?_
        refine q_then ?_
        refine s_reg [0, 1] rfl ?_
        refine o_run ft [0, 1] rfl rfl ?_
        refine o_nil ?_
        refine q_loop ?_
        exact k_wk (ih ((wrap64 (s496.1 + 1)), r500) () H) [2, 4, 5, 6, 7, 14] [0] 1 [0, 0, 0, 0, 0] 0 rfl rfl rfl
      · intro hb497
        have H := cnd_f H hb497
        refine s_exit ?_
        refine q_then_x ?_
        refine q_then_x ?_
        refine q_block_x ?_
        exact k_wk (J485h s496.2 () H) [2, 4, 7] [0] 1 [0, 0, 0, 0, 0] 0 rfl rfl rfl
  have hN4_8 : ∀ (b205 : Nat), ∀ (b245 : Nat), ∀ (b285 : Nat), (jn (fun (x486 : Arr UInt32 8) => jn (fun (x489 : Arr UInt32 8) => some x489) fun J488 => sha_mix_l0 x486 J488 Fuel (0, a0_h)) fun J485 => sha_mix_l1 r85 r125 J485 Fuel (0, a0_h)) = some r → R (Sl E8 A1 c2 a1_b :: D0) (At b205 0 (r85.l.flatMap E32) :: At b245 0 (r125.l.flatMap E32) :: At b285 0 ((Arr.zero 0 8 : Arr UInt32 8).l.flatMap E32) :: At b3 0 (a0_h.l.flatMap E32) :: At b4 0 ((Arr.zero 0 8 : Arr UInt32 8).l.flatMap E32) :: G0) [(2, (.pointer (some ⟨b3, 0, none⟩))), (4, (.pointer (some ⟨b4, 0, none⟩))), (5, (.pointer (some ⟨b205, 0, none⟩))), (6, (.pointer (some ⟨b245, 0, none⟩))), (7, (.pointer (some ⟨b285, 0, none⟩))), (13, (.agg (a0_h.l.flatMap E32).toArray))] 1 #[true, true, true, true, true, true, true, true, true, false] := by
    intro b205 b245 b285 H
    refine to ?_
    refine acs [9] rfl (by kernel_rfl) sl_nil ⟨?_, trivial⟩
    · refine k_st (j := 0) rfl rfl rfl rfl (vs := a0_h.l.flatMap E32) rfl (sz (arr_len E32_len _ rfl) Tryz.sizeOf176) (arr_sc E32_one _) 2 rfl (spl_all ((arr_len E32_len _ rfl).trans (arr_len E32_len _ rfl).symm)) rfl (g0 rfl) rfl ?_
      exact wa_l (by kernel_rfl) (k_wk (fro (hN4_9 b205 b245 b285 H)) [2, 4, 5, 6, 7] [0] 1 [0, 0, 0, 0, 0] 0 rfl rfl rfl)
  have hN4_7 : ∀ (b205 : Nat), ∀ (b245 : Nat), ∀ (b285 : Nat), (jn (fun (x486 : Arr UInt32 8) => jn (fun (x489 : Arr UInt32 8) => some x489) fun J488 => sha_mix_l0 x486 J488 Fuel (0, a0_h)) fun J485 => sha_mix_l1 r85 r125 J485 Fuel (0, a0_h)) = some r → R (Sl E8 A1 c2 a1_b :: D0) (At b205 0 (r85.l.flatMap E32) :: At b245 0 ((Arr.zero 0 64 : Arr UInt32 64).l.flatMap E32) :: At b285 0 ((Arr.zero 0 8 : Arr UInt32 8).l.flatMap E32) :: At b3 0 (a0_h.l.flatMap E32) :: At b4 0 ((Arr.zero 0 8 : Arr UInt32 8).l.flatMap E32) :: G0) [(2, (.pointer (some ⟨b3, 0, none⟩))), (4, (.pointer (some ⟨b4, 0, none⟩))), (5, (.pointer (some ⟨b205, 0, none⟩))), (6, (.pointer (some ⟨b245, 0, none⟩))), (7, (.pointer (some ⟨b285, 0, none⟩))), (12, (.agg (r125.l.flatMap E32).toArray)), (13, (.agg (a0_h.l.flatMap E32).toArray))] 2 #[true, true, true, true, true, true, true, true, false, false] := by
    intro b205 b245 b285 H
    refine to ?_
    refine acs [8] rfl (by kernel_rfl) sl_nil ⟨?_, trivial⟩
    · refine k_st (j := 0) rfl rfl rfl rfl (vs := r125.l.flatMap E32) rfl (sz (arr_len E32_len _ rfl) Tryz.sizeOf224) (arr_sc E32_one _) 1 rfl (spl_all ((arr_len E32_len _ rfl).trans (arr_len E32_len _ rfl).symm)) rfl (g0 rfl) rfl ?_
      exact wa_l (by kernel_rfl) (k_wk (fro (hN4_8 b205 b245 b285 H)) [2, 4, 5, 6, 7, 13] [0] 1 [0, 0, 0, 0, 0] 0 rfl rfl rfl)
  have hN4_6 : ∀ (b205 : Nat), ∀ (b245 : Nat), ∀ (b285 : Nat), (jn (fun (x486 : Arr UInt32 8) => jn (fun (x489 : Arr UInt32 8) => some x489) fun J488 => sha_mix_l0 x486 J488 Fuel (0, a0_h)) fun J485 => sha_mix_l1 r85 r125 J485 Fuel (0, a0_h)) = some r → R (Sl E8 A1 c2 a1_b :: D0) (At b205 0 ((Arr.zero 0 64 : Arr UInt32 64).l.flatMap E32) :: At b245 0 ((Arr.zero 0 64 : Arr UInt32 64).l.flatMap E32) :: At b285 0 ((Arr.zero 0 8 : Arr UInt32 8).l.flatMap E32) :: At b3 0 (a0_h.l.flatMap E32) :: At b4 0 ((Arr.zero 0 8 : Arr UInt32 8).l.flatMap E32) :: G0) [(2, (.pointer (some ⟨b3, 0, none⟩))), (4, (.pointer (some ⟨b4, 0, none⟩))), (5, (.pointer (some ⟨b205, 0, none⟩))), (6, (.pointer (some ⟨b245, 0, none⟩))), (7, (.pointer (some ⟨b285, 0, none⟩))), (11, (.agg (r85.l.flatMap E32).toArray)), (12, (.agg (r125.l.flatMap E32).toArray)), (13, (.agg (a0_h.l.flatMap E32).toArray))] 3 #[true, true, true, true, true, true, true, false, false, false] := by
    intro b205 b245 b285 H
    refine to ?_
    refine acs [7] rfl (by kernel_rfl) sl_nil ⟨?_, trivial⟩
    · refine k_st (j := 0) rfl rfl rfl rfl (vs := r85.l.flatMap E32) rfl (sz (arr_len E32_len _ rfl) Tryz.sizeOf224) (arr_sc E32_one _) 0 rfl (spl_all ((arr_len E32_len _ rfl).trans (arr_len E32_len _ rfl).symm)) rfl (g0 rfl) rfl ?_
      exact wa_l (by kernel_rfl) (k_wk (fro (hN4_7 b205 b245 b285 H)) [2, 4, 5, 6, 7, 12, 13] [0] 1 [0, 0, 0, 0, 0] 0 rfl rfl rfl)
  have hN4_5 : ∀ (b205 : Nat), ∀ (b245 : Nat), (jn (fun (x486 : Arr UInt32 8) => jn (fun (x489 : Arr UInt32 8) => some x489) fun J488 => sha_mix_l0 x486 J488 Fuel (0, a0_h)) fun J485 => sha_mix_l1 r85 r125 J485 Fuel (0, a0_h)) = some r → R (Sl E8 A1 c2 a1_b :: D0) (At b205 0 ((Arr.zero 0 64 : Arr UInt32 64).l.flatMap E32) :: At b245 0 ((Arr.zero 0 64 : Arr UInt32 64).l.flatMap E32) :: At b3 0 (a0_h.l.flatMap E32) :: At b4 0 ((Arr.zero 0 8 : Arr UInt32 8).l.flatMap E32) :: G0) [(2, (.pointer (some ⟨b3, 0, none⟩))), (4, (.pointer (some ⟨b4, 0, none⟩))), (5, (.pointer (some ⟨b205, 0, none⟩))), (6, (.pointer (some ⟨b245, 0, none⟩))), (11, (.agg (r85.l.flatMap E32).toArray)), (12, (.agg (r125.l.flatMap E32).toArray)), (13, (.agg (a0_h.l.flatMap E32).toArray))] 4 #[true, true, true, true, true, true, false, false, false, false] := by
    intro b205 b245 H
    refine to ?_
    refine acs [6] rfl (by kernel_rfl) sl_nil ⟨?_, trivial⟩
    · refine k_alloc rfl rfl Tryz.zeroValue176 (cs := (Arr.zero 0 8 : Arr UInt32 8).l.flatMap E32) rfl (g0 rfl) rfl rfl ?_
      intro b285
      exact wa_l (by kernel_rfl) (k_wk (fro (hN4_6 b205 b245 b285 H)) [2, 4, 5, 6, 7, 11, 12, 13] [0] 1 [1, 1, 0, 0, 0] 0 rfl rfl rfl)
  have hN4_10 : ∀ (b205 : Nat), ∀ (b285 : Nat), (jn (fun (x486 : Arr UInt32 8) => jn (fun (x489 : Arr UInt32 8) => some x489) fun J488 => sha_mix_l0 x486 J488 Fuel (0, a0_h)) fun J485 => sha_mix_l1 r85 r125 J485 Fuel (0, a0_h)) = some r → R (Sl E8 A1 c2 a1_b :: D0) (At b205 0 ((Arr.zero 0 64 : Arr UInt32 64).l.flatMap E32) :: At b285 0 ((Arr.zero 0 8 : Arr UInt32 8).l.flatMap E32) :: At b3 0 (a0_h.l.flatMap E32) :: At b4 0 ((Arr.zero 0 8 : Arr UInt32 8).l.flatMap E32) :: G0) [(2, (.pointer (some ⟨b3, 0, none⟩))), (4, (.pointer (some ⟨b4, 0, none⟩))), (5, (.pointer (some ⟨b205, 0, none⟩))), (7, (.pointer (some ⟨b285, 0, none⟩))), (11, (.agg (r85.l.flatMap E32).toArray)), (12, (.agg (r125.l.flatMap E32).toArray)), (13, (.agg (a0_h.l.flatMap E32).toArray))] 4 #[true, true, true, true, true, false, true, false, false, false] := by
    intro b205 b285 H
    refine to ?_
    refine acs [5] rfl (by kernel_rfl) sl_nil ⟨?_, trivial⟩
    · refine k_alloc rfl rfl Tryz.zeroValue224 (cs := (Arr.zero 0 64 : Arr UInt32 64).l.flatMap E32) rfl (g0 rfl) rfl rfl ?_
      intro b245
      exact wa_l (by kernel_rfl) (k_wk (fro (hN4_6 b205 b245 b285 H)) [2, 4, 5, 6, 7, 11, 12, 13] [0] 1 [1, 0, 0, 0, 0] 0 rfl rfl rfl)
  have hN4_4 : ∀ (b205 : Nat), (jn (fun (x486 : Arr UInt32 8) => jn (fun (x489 : Arr UInt32 8) => some x489) fun J488 => sha_mix_l0 x486 J488 Fuel (0, a0_h)) fun J485 => sha_mix_l1 r85 r125 J485 Fuel (0, a0_h)) = some r → R (Sl E8 A1 c2 a1_b :: D0) (At b205 0 ((Arr.zero 0 64 : Arr UInt32 64).l.flatMap E32) :: At b3 0 (a0_h.l.flatMap E32) :: At b4 0 ((Arr.zero 0 8 : Arr UInt32 8).l.flatMap E32) :: G0) [(2, (.pointer (some ⟨b3, 0, none⟩))), (4, (.pointer (some ⟨b4, 0, none⟩))), (5, (.pointer (some ⟨b205, 0, none⟩))), (11, (.agg (r85.l.flatMap E32).toArray)), (12, (.agg (r125.l.flatMap E32).toArray)), (13, (.agg (a0_h.l.flatMap E32).toArray))] 5 #[true, true, true, true, true, false, false, false, false, false] := by
    intro b205 H
    refine to ?_
    refine acs [5, 6] rfl (by kernel_rfl) sl_nil ⟨?_, ?_, trivial⟩
    · refine k_alloc rfl rfl Tryz.zeroValue224 (cs := (Arr.zero 0 64 : Arr UInt32 64).l.flatMap E32) rfl (g0 rfl) rfl rfl ?_
      intro b245
      exact wa_l (by kernel_rfl) (k_wk (fro (hN4_5 b205 b245 H)) [2, 4, 5, 6, 11, 12, 13] [0] 1 [1, 0, 0, 0] 0 rfl rfl rfl)
    · refine k_alloc rfl rfl Tryz.zeroValue176 (cs := (Arr.zero 0 8 : Arr UInt32 8).l.flatMap E32) rfl (g0 rfl) rfl rfl ?_
      intro b285
      exact wa_l (by kernel_rfl) (k_wk (fro (hN4_10 b205 b285 H)) [2, 4, 5, 7, 11, 12, 13] [0] 1 [1, 0, 0, 0] 0 rfl rfl rfl)
  have hN4_12 : ∀ (b245 : Nat), ∀ (b285 : Nat), (jn (fun (x486 : Arr UInt32 8) => jn (fun (x489 : Arr UInt32 8) => some x489) fun J488 => sha_mix_l0 x486 J488 Fuel (0, a0_h)) fun J485 => sha_mix_l1 r85 r125 J485 Fuel (0, a0_h)) = some r → R (Sl E8 A1 c2 a1_b :: D0) (At b245 0 ((Arr.zero 0 64 : Arr UInt32 64).l.flatMap E32) :: At b285 0 ((Arr.zero 0 8 : Arr UInt32 8).l.flatMap E32) :: At b3 0 (a0_h.l.flatMap E32) :: At b4 0 ((Arr.zero 0 8 : Arr UInt32 8).l.flatMap E32) :: G0) [(2, (.pointer (some ⟨b3, 0, none⟩))), (4, (.pointer (some ⟨b4, 0, none⟩))), (6, (.pointer (some ⟨b245, 0, none⟩))), (7, (.pointer (some ⟨b285, 0, none⟩))), (11, (.agg (r85.l.flatMap E32).toArray)), (12, (.agg (r125.l.flatMap E32).toArray)), (13, (.agg (a0_h.l.flatMap E32).toArray))] 4 #[true, true, true, true, false, true, true, false, false, false] := by
    intro b245 b285 H
    refine to ?_
    refine acs [4] rfl (by kernel_rfl) sl_nil ⟨?_, trivial⟩
    · refine k_alloc rfl rfl Tryz.zeroValue224 (cs := (Arr.zero 0 64 : Arr UInt32 64).l.flatMap E32) rfl (g0 rfl) rfl rfl ?_
      intro b205
      exact wa_l (by kernel_rfl) (k_wk (fro (hN4_6 b205 b245 b285 H)) [2, 4, 5, 6, 7, 11, 12, 13] [0] 1 [0, 0, 0, 0, 0] 0 rfl rfl rfl)
  have hN4_11 : ∀ (b245 : Nat), (jn (fun (x486 : Arr UInt32 8) => jn (fun (x489 : Arr UInt32 8) => some x489) fun J488 => sha_mix_l0 x486 J488 Fuel (0, a0_h)) fun J485 => sha_mix_l1 r85 r125 J485 Fuel (0, a0_h)) = some r → R (Sl E8 A1 c2 a1_b :: D0) (At b245 0 ((Arr.zero 0 64 : Arr UInt32 64).l.flatMap E32) :: At b3 0 (a0_h.l.flatMap E32) :: At b4 0 ((Arr.zero 0 8 : Arr UInt32 8).l.flatMap E32) :: G0) [(2, (.pointer (some ⟨b3, 0, none⟩))), (4, (.pointer (some ⟨b4, 0, none⟩))), (6, (.pointer (some ⟨b245, 0, none⟩))), (11, (.agg (r85.l.flatMap E32).toArray)), (12, (.agg (r125.l.flatMap E32).toArray)), (13, (.agg (a0_h.l.flatMap E32).toArray))] 5 #[true, true, true, true, false, true, false, false, false, false] := by
    intro b245 H
    refine to ?_
    refine acs [4, 6] rfl (by kernel_rfl) sl_nil ⟨?_, ?_, trivial⟩
    · refine k_alloc rfl rfl Tryz.zeroValue224 (cs := (Arr.zero 0 64 : Arr UInt32 64).l.flatMap E32) rfl (g0 rfl) rfl rfl ?_
      intro b205
      exact wa_l (by kernel_rfl) (k_wk (fro (hN4_5 b205 b245 H)) [2, 4, 5, 6, 11, 12, 13] [0] 1 [0, 0, 0, 0] 0 rfl rfl rfl)
    · refine k_alloc rfl rfl Tryz.zeroValue176 (cs := (Arr.zero 0 8 : Arr UInt32 8).l.flatMap E32) rfl (g0 rfl) rfl rfl ?_
      intro b285
      exact wa_l (by kernel_rfl) (k_wk (fro (hN4_12 b245 b285 H)) [2, 4, 6, 7, 11, 12, 13] [0] 1 [1, 0, 0, 0] 0 rfl rfl rfl)
  have hN4_13 : ∀ (b285 : Nat), (jn (fun (x486 : Arr UInt32 8) => jn (fun (x489 : Arr UInt32 8) => some x489) fun J488 => sha_mix_l0 x486 J488 Fuel (0, a0_h)) fun J485 => sha_mix_l1 r85 r125 J485 Fuel (0, a0_h)) = some r → R (Sl E8 A1 c2 a1_b :: D0) (At b285 0 ((Arr.zero 0 8 : Arr UInt32 8).l.flatMap E32) :: At b3 0 (a0_h.l.flatMap E32) :: At b4 0 ((Arr.zero 0 8 : Arr UInt32 8).l.flatMap E32) :: G0) [(2, (.pointer (some ⟨b3, 0, none⟩))), (4, (.pointer (some ⟨b4, 0, none⟩))), (7, (.pointer (some ⟨b285, 0, none⟩))), (11, (.agg (r85.l.flatMap E32).toArray)), (12, (.agg (r125.l.flatMap E32).toArray)), (13, (.agg (a0_h.l.flatMap E32).toArray))] 5 #[true, true, true, true, false, false, true, false, false, false] := by
    intro b285 H
    refine to ?_
    refine acs [4, 5] rfl (by kernel_rfl) sl_nil ⟨?_, ?_, trivial⟩
    · refine k_alloc rfl rfl Tryz.zeroValue224 (cs := (Arr.zero 0 64 : Arr UInt32 64).l.flatMap E32) rfl (g0 rfl) rfl rfl ?_
      intro b205
      exact wa_l (by kernel_rfl) (k_wk (fro (hN4_10 b205 b285 H)) [2, 4, 5, 7, 11, 12, 13] [0] 1 [0, 0, 0, 0] 0 rfl rfl rfl)
    · refine k_alloc rfl rfl Tryz.zeroValue224 (cs := (Arr.zero 0 64 : Arr UInt32 64).l.flatMap E32) rfl (g0 rfl) rfl rfl ?_
      intro b245
      exact wa_l (by kernel_rfl) (k_wk (fro (hN4_12 b245 b285 H)) [2, 4, 6, 7, 11, 12, 13] [0] 1 [0, 0, 0, 0] 0 rfl rfl rfl)
  have hN4_3 : (jn (fun (x486 : Arr UInt32 8) => jn (fun (x489 : Arr UInt32 8) => some x489) fun J488 => sha_mix_l0 x486 J488 Fuel (0, a0_h)) fun J485 => sha_mix_l1 r85 r125 J485 Fuel (0, a0_h)) = some r → R (Sl E8 A1 c2 a1_b :: D0) (At b3 0 (a0_h.l.flatMap E32) :: At b4 0 ((Arr.zero 0 8 : Arr UInt32 8).l.flatMap E32) :: G0) [(2, (.pointer (some ⟨b3, 0, none⟩))), (4, (.pointer (some ⟨b4, 0, none⟩))), (11, (.agg (r85.l.flatMap E32).toArray)), (12, (.agg (r125.l.flatMap E32).toArray)), (13, (.agg (a0_h.l.flatMap E32).toArray))] 6 #[true, true, true, true, false, false, false, false, false, false] := by
    intro H
    refine to ?_
    refine acs [4, 5, 6] rfl (by kernel_rfl) sl_nil ⟨?_, ?_, ?_, trivial⟩
    · refine k_alloc rfl rfl Tryz.zeroValue224 (cs := (Arr.zero 0 64 : Arr UInt32 64).l.flatMap E32) rfl (g0 rfl) rfl rfl ?_
      intro b205
      exact wa_l (by kernel_rfl) (k_wk (fro (hN4_4 b205 H)) [2, 4, 5, 11, 12, 13] [0] 1 [0, 0, 0] 0 rfl rfl rfl)
    · refine k_alloc rfl rfl Tryz.zeroValue224 (cs := (Arr.zero 0 64 : Arr UInt32 64).l.flatMap E32) rfl (g0 rfl) rfl rfl ?_
      intro b245
      exact wa_l (by kernel_rfl) (k_wk (fro (hN4_11 b245 H)) [2, 4, 6, 11, 12, 13] [0] 1 [0, 0, 0] 0 rfl rfl rfl)
    · refine k_alloc rfl rfl Tryz.zeroValue176 (cs := (Arr.zero 0 8 : Arr UInt32 8).l.flatMap E32) rfl (g0 rfl) rfl rfl ?_
      intro b285
      exact wa_l (by kernel_rfl) (k_wk (fro (hN4_13 b285 H)) [2, 4, 7, 11, 12, 13] [0] 1 [0, 0, 0] 0 rfl rfl rfl)
  have hN4_18 : ∀ (b205 : Nat), ∀ (b245 : Nat), ∀ (b285 : Nat), (jn (fun (x486 : Arr UInt32 8) => jn (fun (x489 : Arr UInt32 8) => some x489) fun J488 => sha_mix_l0 x486 J488 Fuel (0, a0_h)) fun J485 => sha_mix_l1 r85 r125 J485 Fuel (0, a0_h)) = some r → R (Sl E8 A1 c2 a1_b :: D0) (At b205 0 (r85.l.flatMap E32) :: At b245 0 (r125.l.flatMap E32) :: At b285 0 ((Arr.zero 0 8 : Arr UInt32 8).l.flatMap E32) :: At b3 0 (a0_h.l.flatMap E32) :: At b4 0 ((Arr.zero 0 8 : Arr UInt32 8).l.flatMap E32) :: G0) [(2, (.pointer (some ⟨b3, 0, none⟩))), (4, (.pointer (some ⟨b4, 0, none⟩))), (5, (.pointer (some ⟨b205, 0, none⟩))), (6, (.pointer (some ⟨b245, 0, none⟩))), (7, (.pointer (some ⟨b285, 0, none⟩)))] 2 #[true, true, true, false, true, true, true, true, true, false] := by
    intro b205 b245 b285 H
    refine to ?_
    refine acs [3] rfl (by kernel_rfl) sl_nil ⟨?_, trivial⟩
    · refine k_ld (hG 3 rfl) rfl (ev_ldN (j := 0) rfl rfl Tryz.isAgg176 (sz (arr_len E32_len _ rfl) Tryz.sizeOf176) (sub_all _) rfl) (g0 rfl) rfl rfl ?_
      exact wa_l (by kernel_rfl) (k_wk (fro (hN4_8 b205 b245 b285 H)) [2, 4, 5, 6, 7, 13] [0] 1 [0, 0, 0, 0, 0] 0 rfl rfl rfl)
  have hN4_17 : ∀ (b205 : Nat), ∀ (b245 : Nat), ∀ (b285 : Nat), (jn (fun (x486 : Arr UInt32 8) => jn (fun (x489 : Arr UInt32 8) => some x489) fun J488 => sha_mix_l0 x486 J488 Fuel (0, a0_h)) fun J485 => sha_mix_l1 r85 r125 J485 Fuel (0, a0_h)) = some r → R (Sl E8 A1 c2 a1_b :: D0) (At b205 0 (r85.l.flatMap E32) :: At b245 0 ((Arr.zero 0 64 : Arr UInt32 64).l.flatMap E32) :: At b285 0 ((Arr.zero 0 8 : Arr UInt32 8).l.flatMap E32) :: At b3 0 (a0_h.l.flatMap E32) :: At b4 0 ((Arr.zero 0 8 : Arr UInt32 8).l.flatMap E32) :: G0) [(2, (.pointer (some ⟨b3, 0, none⟩))), (4, (.pointer (some ⟨b4, 0, none⟩))), (5, (.pointer (some ⟨b205, 0, none⟩))), (6, (.pointer (some ⟨b245, 0, none⟩))), (7, (.pointer (some ⟨b285, 0, none⟩))), (12, (.agg (r125.l.flatMap E32).toArray))] 3 #[true, true, true, false, true, true, true, true, false, false] := by
    intro b205 b245 b285 H
    refine to ?_
    refine acs [3, 8] rfl (by kernel_rfl) sl_nil ⟨?_, ?_, trivial⟩
    · refine k_ld (hG 3 rfl) rfl (ev_ldN (j := 0) rfl rfl Tryz.isAgg176 (sz (arr_len E32_len _ rfl) Tryz.sizeOf176) (sub_all _) rfl) (g0 rfl) rfl rfl ?_
      exact wa_l (by kernel_rfl) (k_wk (fro (hN4_7 b205 b245 b285 H)) [2, 4, 5, 6, 7, 12, 13] [0] 1 [0, 0, 0, 0, 0] 0 rfl rfl rfl)
    · refine k_st (j := 0) rfl rfl rfl rfl (vs := r125.l.flatMap E32) rfl (sz (arr_len E32_len _ rfl) Tryz.sizeOf224) (arr_sc E32_one _) 1 rfl (spl_all ((arr_len E32_len _ rfl).trans (arr_len E32_len _ rfl).symm)) rfl (g0 rfl) rfl ?_
      exact wa_l (by kernel_rfl) (k_wk (fro (hN4_18 b205 b245 b285 H)) [2, 4, 5, 6, 7] [0] 1 [0, 0, 0, 0, 0] 0 rfl rfl rfl)
  have hN4_16 : ∀ (b205 : Nat), ∀ (b245 : Nat), ∀ (b285 : Nat), (jn (fun (x486 : Arr UInt32 8) => jn (fun (x489 : Arr UInt32 8) => some x489) fun J488 => sha_mix_l0 x486 J488 Fuel (0, a0_h)) fun J485 => sha_mix_l1 r85 r125 J485 Fuel (0, a0_h)) = some r → R (Sl E8 A1 c2 a1_b :: D0) (At b205 0 ((Arr.zero 0 64 : Arr UInt32 64).l.flatMap E32) :: At b245 0 ((Arr.zero 0 64 : Arr UInt32 64).l.flatMap E32) :: At b285 0 ((Arr.zero 0 8 : Arr UInt32 8).l.flatMap E32) :: At b3 0 (a0_h.l.flatMap E32) :: At b4 0 ((Arr.zero 0 8 : Arr UInt32 8).l.flatMap E32) :: G0) [(2, (.pointer (some ⟨b3, 0, none⟩))), (4, (.pointer (some ⟨b4, 0, none⟩))), (5, (.pointer (some ⟨b205, 0, none⟩))), (6, (.pointer (some ⟨b245, 0, none⟩))), (7, (.pointer (some ⟨b285, 0, none⟩))), (11, (.agg (r85.l.flatMap E32).toArray)), (12, (.agg (r125.l.flatMap E32).toArray))] 4 #[true, true, true, false, true, true, true, false, false, false] := by
    intro b205 b245 b285 H
    refine to ?_
    refine acs [3, 7] rfl (by kernel_rfl) sl_nil ⟨?_, ?_, trivial⟩
    · refine k_ld (hG 3 rfl) rfl (ev_ldN (j := 0) rfl rfl Tryz.isAgg176 (sz (arr_len E32_len _ rfl) Tryz.sizeOf176) (sub_all _) rfl) (g0 rfl) rfl rfl ?_
      exact wa_l (by kernel_rfl) (k_wk (fro (hN4_6 b205 b245 b285 H)) [2, 4, 5, 6, 7, 11, 12, 13] [0] 1 [0, 0, 0, 0, 0] 0 rfl rfl rfl)
    · refine k_st (j := 0) rfl rfl rfl rfl (vs := r85.l.flatMap E32) rfl (sz (arr_len E32_len _ rfl) Tryz.sizeOf224) (arr_sc E32_one _) 0 rfl (spl_all ((arr_len E32_len _ rfl).trans (arr_len E32_len _ rfl).symm)) rfl (g0 rfl) rfl ?_
      exact wa_l (by kernel_rfl) (k_wk (fro (hN4_17 b205 b245 b285 H)) [2, 4, 5, 6, 7, 12] [0] 1 [0, 0, 0, 0, 0] 0 rfl rfl rfl)
  have hN4_15 : ∀ (b205 : Nat), ∀ (b245 : Nat), (jn (fun (x486 : Arr UInt32 8) => jn (fun (x489 : Arr UInt32 8) => some x489) fun J488 => sha_mix_l0 x486 J488 Fuel (0, a0_h)) fun J485 => sha_mix_l1 r85 r125 J485 Fuel (0, a0_h)) = some r → R (Sl E8 A1 c2 a1_b :: D0) (At b205 0 ((Arr.zero 0 64 : Arr UInt32 64).l.flatMap E32) :: At b245 0 ((Arr.zero 0 64 : Arr UInt32 64).l.flatMap E32) :: At b3 0 (a0_h.l.flatMap E32) :: At b4 0 ((Arr.zero 0 8 : Arr UInt32 8).l.flatMap E32) :: G0) [(2, (.pointer (some ⟨b3, 0, none⟩))), (4, (.pointer (some ⟨b4, 0, none⟩))), (5, (.pointer (some ⟨b205, 0, none⟩))), (6, (.pointer (some ⟨b245, 0, none⟩))), (11, (.agg (r85.l.flatMap E32).toArray)), (12, (.agg (r125.l.flatMap E32).toArray))] 5 #[true, true, true, false, true, true, false, false, false, false] := by
    intro b205 b245 H
    refine to ?_
    refine acs [3, 6] rfl (by kernel_rfl) sl_nil ⟨?_, ?_, trivial⟩
    · refine k_ld (hG 2 rfl) rfl (ev_ldN (j := 0) rfl rfl Tryz.isAgg176 (sz (arr_len E32_len _ rfl) Tryz.sizeOf176) (sub_all _) rfl) (g0 rfl) rfl rfl ?_
      exact wa_l (by kernel_rfl) (k_wk (fro (hN4_5 b205 b245 H)) [2, 4, 5, 6, 11, 12, 13] [0] 1 [0, 0, 0, 0] 0 rfl rfl rfl)
    · refine k_alloc rfl rfl Tryz.zeroValue176 (cs := (Arr.zero 0 8 : Arr UInt32 8).l.flatMap E32) rfl (g0 rfl) rfl rfl ?_
      intro b285
      exact wa_l (by kernel_rfl) (k_wk (fro (hN4_16 b205 b245 b285 H)) [2, 4, 5, 6, 7, 11, 12] [0] 1 [1, 1, 0, 0, 0] 0 rfl rfl rfl)
  have hN4_19 : ∀ (b205 : Nat), ∀ (b285 : Nat), (jn (fun (x486 : Arr UInt32 8) => jn (fun (x489 : Arr UInt32 8) => some x489) fun J488 => sha_mix_l0 x486 J488 Fuel (0, a0_h)) fun J485 => sha_mix_l1 r85 r125 J485 Fuel (0, a0_h)) = some r → R (Sl E8 A1 c2 a1_b :: D0) (At b205 0 ((Arr.zero 0 64 : Arr UInt32 64).l.flatMap E32) :: At b285 0 ((Arr.zero 0 8 : Arr UInt32 8).l.flatMap E32) :: At b3 0 (a0_h.l.flatMap E32) :: At b4 0 ((Arr.zero 0 8 : Arr UInt32 8).l.flatMap E32) :: G0) [(2, (.pointer (some ⟨b3, 0, none⟩))), (4, (.pointer (some ⟨b4, 0, none⟩))), (5, (.pointer (some ⟨b205, 0, none⟩))), (7, (.pointer (some ⟨b285, 0, none⟩))), (11, (.agg (r85.l.flatMap E32).toArray)), (12, (.agg (r125.l.flatMap E32).toArray))] 5 #[true, true, true, false, true, false, true, false, false, false] := by
    intro b205 b285 H
    refine to ?_
    refine acs [3, 5] rfl (by kernel_rfl) sl_nil ⟨?_, ?_, trivial⟩
    · refine k_ld (hG 2 rfl) rfl (ev_ldN (j := 0) rfl rfl Tryz.isAgg176 (sz (arr_len E32_len _ rfl) Tryz.sizeOf176) (sub_all _) rfl) (g0 rfl) rfl rfl ?_
      exact wa_l (by kernel_rfl) (k_wk (fro (hN4_10 b205 b285 H)) [2, 4, 5, 7, 11, 12, 13] [0] 1 [0, 0, 0, 0] 0 rfl rfl rfl)
    · refine k_alloc rfl rfl Tryz.zeroValue224 (cs := (Arr.zero 0 64 : Arr UInt32 64).l.flatMap E32) rfl (g0 rfl) rfl rfl ?_
      intro b245
      exact wa_l (by kernel_rfl) (k_wk (fro (hN4_16 b205 b245 b285 H)) [2, 4, 5, 6, 7, 11, 12] [0] 1 [1, 0, 0, 0, 0] 0 rfl rfl rfl)
  have hN4_14 : ∀ (b205 : Nat), (jn (fun (x486 : Arr UInt32 8) => jn (fun (x489 : Arr UInt32 8) => some x489) fun J488 => sha_mix_l0 x486 J488 Fuel (0, a0_h)) fun J485 => sha_mix_l1 r85 r125 J485 Fuel (0, a0_h)) = some r → R (Sl E8 A1 c2 a1_b :: D0) (At b205 0 ((Arr.zero 0 64 : Arr UInt32 64).l.flatMap E32) :: At b3 0 (a0_h.l.flatMap E32) :: At b4 0 ((Arr.zero 0 8 : Arr UInt32 8).l.flatMap E32) :: G0) [(2, (.pointer (some ⟨b3, 0, none⟩))), (4, (.pointer (some ⟨b4, 0, none⟩))), (5, (.pointer (some ⟨b205, 0, none⟩))), (11, (.agg (r85.l.flatMap E32).toArray)), (12, (.agg (r125.l.flatMap E32).toArray))] 6 #[true, true, true, false, true, false, false, false, false, false] := by
    intro b205 H
    refine to ?_
    refine acs [3, 5, 6] rfl (by kernel_rfl) sl_nil ⟨?_, ?_, ?_, trivial⟩
    · refine k_ld (hG 1 rfl) rfl (ev_ldN (j := 0) rfl rfl Tryz.isAgg176 (sz (arr_len E32_len _ rfl) Tryz.sizeOf176) (sub_all _) rfl) (g0 rfl) rfl rfl ?_
      exact wa_l (by kernel_rfl) (k_wk (fro (hN4_4 b205 H)) [2, 4, 5, 11, 12, 13] [0] 1 [0, 0, 0] 0 rfl rfl rfl)
    · refine k_alloc rfl rfl Tryz.zeroValue224 (cs := (Arr.zero 0 64 : Arr UInt32 64).l.flatMap E32) rfl (g0 rfl) rfl rfl ?_
      intro b245
      exact wa_l (by kernel_rfl) (k_wk (fro (hN4_15 b205 b245 H)) [2, 4, 5, 6, 11, 12] [0] 1 [1, 0, 0, 0] 0 rfl rfl rfl)
    · refine k_alloc rfl rfl Tryz.zeroValue176 (cs := (Arr.zero 0 8 : Arr UInt32 8).l.flatMap E32) rfl (g0 rfl) rfl rfl ?_
      intro b285
      exact wa_l (by kernel_rfl) (k_wk (fro (hN4_19 b205 b285 H)) [2, 4, 5, 7, 11, 12] [0] 1 [1, 0, 0, 0] 0 rfl rfl rfl)
  have hN4_21 : ∀ (b245 : Nat), ∀ (b285 : Nat), (jn (fun (x486 : Arr UInt32 8) => jn (fun (x489 : Arr UInt32 8) => some x489) fun J488 => sha_mix_l0 x486 J488 Fuel (0, a0_h)) fun J485 => sha_mix_l1 r85 r125 J485 Fuel (0, a0_h)) = some r → R (Sl E8 A1 c2 a1_b :: D0) (At b245 0 ((Arr.zero 0 64 : Arr UInt32 64).l.flatMap E32) :: At b285 0 ((Arr.zero 0 8 : Arr UInt32 8).l.flatMap E32) :: At b3 0 (a0_h.l.flatMap E32) :: At b4 0 ((Arr.zero 0 8 : Arr UInt32 8).l.flatMap E32) :: G0) [(2, (.pointer (some ⟨b3, 0, none⟩))), (4, (.pointer (some ⟨b4, 0, none⟩))), (6, (.pointer (some ⟨b245, 0, none⟩))), (7, (.pointer (some ⟨b285, 0, none⟩))), (11, (.agg (r85.l.flatMap E32).toArray)), (12, (.agg (r125.l.flatMap E32).toArray))] 5 #[true, true, true, false, false, true, true, false, false, false] := by
    intro b245 b285 H
    refine to ?_
    refine acs [3, 4] rfl (by kernel_rfl) sl_nil ⟨?_, ?_, trivial⟩
    · refine k_ld (hG 2 rfl) rfl (ev_ldN (j := 0) rfl rfl Tryz.isAgg176 (sz (arr_len E32_len _ rfl) Tryz.sizeOf176) (sub_all _) rfl) (g0 rfl) rfl rfl ?_
      exact wa_l (by kernel_rfl) (k_wk (fro (hN4_12 b245 b285 H)) [2, 4, 6, 7, 11, 12, 13] [0] 1 [0, 0, 0, 0] 0 rfl rfl rfl)
    · refine k_alloc rfl rfl Tryz.zeroValue224 (cs := (Arr.zero 0 64 : Arr UInt32 64).l.flatMap E32) rfl (g0 rfl) rfl rfl ?_
      intro b205
      exact wa_l (by kernel_rfl) (k_wk (fro (hN4_16 b205 b245 b285 H)) [2, 4, 5, 6, 7, 11, 12] [0] 1 [0, 0, 0, 0, 0] 0 rfl rfl rfl)
  have hN4_20 : ∀ (b245 : Nat), (jn (fun (x486 : Arr UInt32 8) => jn (fun (x489 : Arr UInt32 8) => some x489) fun J488 => sha_mix_l0 x486 J488 Fuel (0, a0_h)) fun J485 => sha_mix_l1 r85 r125 J485 Fuel (0, a0_h)) = some r → R (Sl E8 A1 c2 a1_b :: D0) (At b245 0 ((Arr.zero 0 64 : Arr UInt32 64).l.flatMap E32) :: At b3 0 (a0_h.l.flatMap E32) :: At b4 0 ((Arr.zero 0 8 : Arr UInt32 8).l.flatMap E32) :: G0) [(2, (.pointer (some ⟨b3, 0, none⟩))), (4, (.pointer (some ⟨b4, 0, none⟩))), (6, (.pointer (some ⟨b245, 0, none⟩))), (11, (.agg (r85.l.flatMap E32).toArray)), (12, (.agg (r125.l.flatMap E32).toArray))] 6 #[true, true, true, false, false, true, false, false, false, false] := by
    intro b245 H
    refine to ?_
    refine acs [3, 4, 6] rfl (by kernel_rfl) sl_nil ⟨?_, ?_, ?_, trivial⟩
    · refine k_ld (hG 1 rfl) rfl (ev_ldN (j := 0) rfl rfl Tryz.isAgg176 (sz (arr_len E32_len _ rfl) Tryz.sizeOf176) (sub_all _) rfl) (g0 rfl) rfl rfl ?_
      exact wa_l (by kernel_rfl) (k_wk (fro (hN4_11 b245 H)) [2, 4, 6, 11, 12, 13] [0] 1 [0, 0, 0] 0 rfl rfl rfl)
    · refine k_alloc rfl rfl Tryz.zeroValue224 (cs := (Arr.zero 0 64 : Arr UInt32 64).l.flatMap E32) rfl (g0 rfl) rfl rfl ?_
      intro b205
      exact wa_l (by kernel_rfl) (k_wk (fro (hN4_15 b205 b245 H)) [2, 4, 5, 6, 11, 12] [0] 1 [0, 0, 0, 0] 0 rfl rfl rfl)
    · refine k_alloc rfl rfl Tryz.zeroValue176 (cs := (Arr.zero 0 8 : Arr UInt32 8).l.flatMap E32) rfl (g0 rfl) rfl rfl ?_
      intro b285
      exact wa_l (by kernel_rfl) (k_wk (fro (hN4_21 b245 b285 H)) [2, 4, 6, 7, 11, 12] [0] 1 [1, 0, 0, 0] 0 rfl rfl rfl)
  have hN4_22 : ∀ (b285 : Nat), (jn (fun (x486 : Arr UInt32 8) => jn (fun (x489 : Arr UInt32 8) => some x489) fun J488 => sha_mix_l0 x486 J488 Fuel (0, a0_h)) fun J485 => sha_mix_l1 r85 r125 J485 Fuel (0, a0_h)) = some r → R (Sl E8 A1 c2 a1_b :: D0) (At b285 0 ((Arr.zero 0 8 : Arr UInt32 8).l.flatMap E32) :: At b3 0 (a0_h.l.flatMap E32) :: At b4 0 ((Arr.zero 0 8 : Arr UInt32 8).l.flatMap E32) :: G0) [(2, (.pointer (some ⟨b3, 0, none⟩))), (4, (.pointer (some ⟨b4, 0, none⟩))), (7, (.pointer (some ⟨b285, 0, none⟩))), (11, (.agg (r85.l.flatMap E32).toArray)), (12, (.agg (r125.l.flatMap E32).toArray))] 6 #[true, true, true, false, false, false, true, false, false, false] := by
    intro b285 H
    refine to ?_
    refine acs [3, 4, 5] rfl (by kernel_rfl) sl_nil ⟨?_, ?_, ?_, trivial⟩
    · refine k_ld (hG 1 rfl) rfl (ev_ldN (j := 0) rfl rfl Tryz.isAgg176 (sz (arr_len E32_len _ rfl) Tryz.sizeOf176) (sub_all _) rfl) (g0 rfl) rfl rfl ?_
      exact wa_l (by kernel_rfl) (k_wk (fro (hN4_13 b285 H)) [2, 4, 7, 11, 12, 13] [0] 1 [0, 0, 0] 0 rfl rfl rfl)
    · refine k_alloc rfl rfl Tryz.zeroValue224 (cs := (Arr.zero 0 64 : Arr UInt32 64).l.flatMap E32) rfl (g0 rfl) rfl rfl ?_
      intro b205
      exact wa_l (by kernel_rfl) (k_wk (fro (hN4_19 b205 b285 H)) [2, 4, 5, 7, 11, 12] [0] 1 [0, 0, 0, 0] 0 rfl rfl rfl)
    · refine k_alloc rfl rfl Tryz.zeroValue224 (cs := (Arr.zero 0 64 : Arr UInt32 64).l.flatMap E32) rfl (g0 rfl) rfl rfl ?_
      intro b245
      exact wa_l (by kernel_rfl) (k_wk (fro (hN4_21 b245 b285 H)) [2, 4, 6, 7, 11, 12] [0] 1 [0, 0, 0, 0] 0 rfl rfl rfl)
  have hN4_2 : (jn (fun (x486 : Arr UInt32 8) => jn (fun (x489 : Arr UInt32 8) => some x489) fun J488 => sha_mix_l0 x486 J488 Fuel (0, a0_h)) fun J485 => sha_mix_l1 r85 r125 J485 Fuel (0, a0_h)) = some r → R (Sl E8 A1 c2 a1_b :: D0) (At b3 0 (a0_h.l.flatMap E32) :: At b4 0 ((Arr.zero 0 8 : Arr UInt32 8).l.flatMap E32) :: G0) [(2, (.pointer (some ⟨b3, 0, none⟩))), (4, (.pointer (some ⟨b4, 0, none⟩))), (11, (.agg (r85.l.flatMap E32).toArray)), (12, (.agg (r125.l.flatMap E32).toArray))] 7 #[true, true, true, false, false, false, false, false, false, false] := by
    intro H
    refine to ?_
    refine acs [3, 4, 5, 6] rfl (by kernel_rfl) sl_nil ⟨?_, ?_, ?_, ?_, trivial⟩
    · refine k_ld (hG 0 rfl) rfl (ev_ldN (j := 0) rfl rfl Tryz.isAgg176 (sz (arr_len E32_len _ rfl) Tryz.sizeOf176) (sub_all _) rfl) (g0 rfl) rfl rfl ?_
      exact wa_l (by kernel_rfl) (k_wk (fro (hN4_3 H)) [2, 4, 11, 12, 13] [0] 1 [0, 0] 0 rfl rfl rfl)
    · refine k_alloc rfl rfl Tryz.zeroValue224 (cs := (Arr.zero 0 64 : Arr UInt32 64).l.flatMap E32) rfl (g0 rfl) rfl rfl ?_
      intro b205
      exact wa_l (by kernel_rfl) (k_wk (fro (hN4_14 b205 H)) [2, 4, 5, 11, 12] [0] 1 [0, 0, 0] 0 rfl rfl rfl)
    · refine k_alloc rfl rfl Tryz.zeroValue224 (cs := (Arr.zero 0 64 : Arr UInt32 64).l.flatMap E32) rfl (g0 rfl) rfl rfl ?_
      intro b245
      exact wa_l (by kernel_rfl) (k_wk (fro (hN4_20 b245 H)) [2, 4, 6, 11, 12] [0] 1 [0, 0, 0] 0 rfl rfl rfl)
    · refine k_alloc rfl rfl Tryz.zeroValue176 (cs := (Arr.zero 0 8 : Arr UInt32 8).l.flatMap E32) rfl (g0 rfl) rfl rfl ?_
      intro b285
      exact wa_l (by kernel_rfl) (k_wk (fro (hN4_22 b285 H)) [2, 4, 7, 11, 12] [0] 1 [0, 0, 0] 0 rfl rfl rfl)
  have hN4_26 : ∀ (b205 : Nat), ∀ (b245 : Nat), ∀ (b285 : Nat), (jn (fun (x486 : Arr UInt32 8) => jn (fun (x489 : Arr UInt32 8) => some x489) fun J488 => sha_mix_l0 x486 J488 Fuel (0, a0_h)) fun J485 => sha_mix_l1 r85 r125 J485 Fuel (0, a0_h)) = some r → R (Sl E8 A1 c2 a1_b :: D0) (At b205 0 ((Arr.zero 0 64 : Arr UInt32 64).l.flatMap E32) :: At b245 0 ((Arr.zero 0 64 : Arr UInt32 64).l.flatMap E32) :: At b285 0 ((Arr.zero 0 8 : Arr UInt32 8).l.flatMap E32) :: At b3 0 (a0_h.l.flatMap E32) :: At b4 0 ((Arr.zero 0 8 : Arr UInt32 8).l.flatMap E32) :: G0) [(2, (.pointer (some ⟨b3, 0, none⟩))), (4, (.pointer (some ⟨b4, 0, none⟩))), (5, (.pointer (some ⟨b205, 0, none⟩))), (6, (.pointer (some ⟨b245, 0, none⟩))), (7, (.pointer (some ⟨b285, 0, none⟩))), (11, (.agg (r85.l.flatMap E32).toArray)), (13, (.agg (a0_h.l.flatMap E32).toArray))] 4 #[true, true, false, true, true, true, true, false, false, false] := by
    intro b205 b245 b285 H
    refine to ?_
    refine acs [2] rfl (by kernel_rfl) sl_nil ⟨?_, trivial⟩
    · refine k_call (c_sha_constants  r125 Hc126) Tryz.call201 rfl rfl rfl [] [] rfl rfl (g0 rfl) rfl rfl ?_
      rintro _ _ _ ⟨rfl, rfl, rfl⟩
      dsimp only [app]
      exact wa_l (by kernel_rfl) (k_wk (fro (hN4_6 b205 b245 b285 H)) [2, 4, 5, 6, 7, 11, 12, 13] [0] 1 [0, 0, 0, 0, 0] 0 rfl rfl rfl)
  have hN4_25 : ∀ (b205 : Nat), ∀ (b245 : Nat), (jn (fun (x486 : Arr UInt32 8) => jn (fun (x489 : Arr UInt32 8) => some x489) fun J488 => sha_mix_l0 x486 J488 Fuel (0, a0_h)) fun J485 => sha_mix_l1 r85 r125 J485 Fuel (0, a0_h)) = some r → R (Sl E8 A1 c2 a1_b :: D0) (At b205 0 ((Arr.zero 0 64 : Arr UInt32 64).l.flatMap E32) :: At b245 0 ((Arr.zero 0 64 : Arr UInt32 64).l.flatMap E32) :: At b3 0 (a0_h.l.flatMap E32) :: At b4 0 ((Arr.zero 0 8 : Arr UInt32 8).l.flatMap E32) :: G0) [(2, (.pointer (some ⟨b3, 0, none⟩))), (4, (.pointer (some ⟨b4, 0, none⟩))), (5, (.pointer (some ⟨b205, 0, none⟩))), (6, (.pointer (some ⟨b245, 0, none⟩))), (11, (.agg (r85.l.flatMap E32).toArray)), (13, (.agg (a0_h.l.flatMap E32).toArray))] 5 #[true, true, false, true, true, true, false, false, false, false] := by
    intro b205 b245 H
    refine to ?_
    refine acs [2, 6] rfl (by kernel_rfl) sl_nil ⟨?_, ?_, trivial⟩
    · refine k_call (c_sha_constants  r125 Hc126) Tryz.call201 rfl rfl rfl [] [] rfl rfl (g0 rfl) rfl rfl ?_
      rintro _ _ _ ⟨rfl, rfl, rfl⟩
      dsimp only [app]
      exact wa_l (by kernel_rfl) (k_wk (fro (hN4_5 b205 b245 H)) [2, 4, 5, 6, 11, 12, 13] [0] 1 [0, 0, 0, 0] 0 rfl rfl rfl)
    · refine k_alloc rfl rfl Tryz.zeroValue176 (cs := (Arr.zero 0 8 : Arr UInt32 8).l.flatMap E32) rfl (g0 rfl) rfl rfl ?_
      intro b285
      exact wa_l (by kernel_rfl) (k_wk (fro (hN4_26 b205 b245 b285 H)) [2, 4, 5, 6, 7, 11, 13] [0] 1 [1, 1, 0, 0, 0] 0 rfl rfl rfl)
  have hN4_27 : ∀ (b205 : Nat), ∀ (b285 : Nat), (jn (fun (x486 : Arr UInt32 8) => jn (fun (x489 : Arr UInt32 8) => some x489) fun J488 => sha_mix_l0 x486 J488 Fuel (0, a0_h)) fun J485 => sha_mix_l1 r85 r125 J485 Fuel (0, a0_h)) = some r → R (Sl E8 A1 c2 a1_b :: D0) (At b205 0 ((Arr.zero 0 64 : Arr UInt32 64).l.flatMap E32) :: At b285 0 ((Arr.zero 0 8 : Arr UInt32 8).l.flatMap E32) :: At b3 0 (a0_h.l.flatMap E32) :: At b4 0 ((Arr.zero 0 8 : Arr UInt32 8).l.flatMap E32) :: G0) [(2, (.pointer (some ⟨b3, 0, none⟩))), (4, (.pointer (some ⟨b4, 0, none⟩))), (5, (.pointer (some ⟨b205, 0, none⟩))), (7, (.pointer (some ⟨b285, 0, none⟩))), (11, (.agg (r85.l.flatMap E32).toArray)), (13, (.agg (a0_h.l.flatMap E32).toArray))] 5 #[true, true, false, true, true, false, true, false, false, false] := by
    intro b205 b285 H
    refine to ?_
    refine acs [2, 5] rfl (by kernel_rfl) sl_nil ⟨?_, ?_, trivial⟩
    · refine k_call (c_sha_constants  r125 Hc126) Tryz.call201 rfl rfl rfl [] [] rfl rfl (g0 rfl) rfl rfl ?_
      rintro _ _ _ ⟨rfl, rfl, rfl⟩
      dsimp only [app]
      exact wa_l (by kernel_rfl) (k_wk (fro (hN4_10 b205 b285 H)) [2, 4, 5, 7, 11, 12, 13] [0] 1 [0, 0, 0, 0] 0 rfl rfl rfl)
    · refine k_alloc rfl rfl Tryz.zeroValue224 (cs := (Arr.zero 0 64 : Arr UInt32 64).l.flatMap E32) rfl (g0 rfl) rfl rfl ?_
      intro b245
      exact wa_l (by kernel_rfl) (k_wk (fro (hN4_26 b205 b245 b285 H)) [2, 4, 5, 6, 7, 11, 13] [0] 1 [1, 0, 0, 0, 0] 0 rfl rfl rfl)
  have hN4_24 : ∀ (b205 : Nat), (jn (fun (x486 : Arr UInt32 8) => jn (fun (x489 : Arr UInt32 8) => some x489) fun J488 => sha_mix_l0 x486 J488 Fuel (0, a0_h)) fun J485 => sha_mix_l1 r85 r125 J485 Fuel (0, a0_h)) = some r → R (Sl E8 A1 c2 a1_b :: D0) (At b205 0 ((Arr.zero 0 64 : Arr UInt32 64).l.flatMap E32) :: At b3 0 (a0_h.l.flatMap E32) :: At b4 0 ((Arr.zero 0 8 : Arr UInt32 8).l.flatMap E32) :: G0) [(2, (.pointer (some ⟨b3, 0, none⟩))), (4, (.pointer (some ⟨b4, 0, none⟩))), (5, (.pointer (some ⟨b205, 0, none⟩))), (11, (.agg (r85.l.flatMap E32).toArray)), (13, (.agg (a0_h.l.flatMap E32).toArray))] 6 #[true, true, false, true, true, false, false, false, false, false] := by
    intro b205 H
    refine to ?_
    refine acs [2, 5, 6] rfl (by kernel_rfl) sl_nil ⟨?_, ?_, ?_, trivial⟩
    · refine k_call (c_sha_constants  r125 Hc126) Tryz.call201 rfl rfl rfl [] [] rfl rfl (g0 rfl) rfl rfl ?_
      rintro _ _ _ ⟨rfl, rfl, rfl⟩
      dsimp only [app]
      exact wa_l (by kernel_rfl) (k_wk (fro (hN4_4 b205 H)) [2, 4, 5, 11, 12, 13] [0] 1 [0, 0, 0] 0 rfl rfl rfl)
    · refine k_alloc rfl rfl Tryz.zeroValue224 (cs := (Arr.zero 0 64 : Arr UInt32 64).l.flatMap E32) rfl (g0 rfl) rfl rfl ?_
      intro b245
      exact wa_l (by kernel_rfl) (k_wk (fro (hN4_25 b205 b245 H)) [2, 4, 5, 6, 11, 13] [0] 1 [1, 0, 0, 0] 0 rfl rfl rfl)
    · refine k_alloc rfl rfl Tryz.zeroValue176 (cs := (Arr.zero 0 8 : Arr UInt32 8).l.flatMap E32) rfl (g0 rfl) rfl rfl ?_
      intro b285
      exact wa_l (by kernel_rfl) (k_wk (fro (hN4_27 b205 b285 H)) [2, 4, 5, 7, 11, 13] [0] 1 [1, 0, 0, 0] 0 rfl rfl rfl)
  have hN4_29 : ∀ (b245 : Nat), ∀ (b285 : Nat), (jn (fun (x486 : Arr UInt32 8) => jn (fun (x489 : Arr UInt32 8) => some x489) fun J488 => sha_mix_l0 x486 J488 Fuel (0, a0_h)) fun J485 => sha_mix_l1 r85 r125 J485 Fuel (0, a0_h)) = some r → R (Sl E8 A1 c2 a1_b :: D0) (At b245 0 ((Arr.zero 0 64 : Arr UInt32 64).l.flatMap E32) :: At b285 0 ((Arr.zero 0 8 : Arr UInt32 8).l.flatMap E32) :: At b3 0 (a0_h.l.flatMap E32) :: At b4 0 ((Arr.zero 0 8 : Arr UInt32 8).l.flatMap E32) :: G0) [(2, (.pointer (some ⟨b3, 0, none⟩))), (4, (.pointer (some ⟨b4, 0, none⟩))), (6, (.pointer (some ⟨b245, 0, none⟩))), (7, (.pointer (some ⟨b285, 0, none⟩))), (11, (.agg (r85.l.flatMap E32).toArray)), (13, (.agg (a0_h.l.flatMap E32).toArray))] 5 #[true, true, false, true, false, true, true, false, false, false] := by
    intro b245 b285 H
    refine to ?_
    refine acs [2, 4] rfl (by kernel_rfl) sl_nil ⟨?_, ?_, trivial⟩
    · refine k_call (c_sha_constants  r125 Hc126) Tryz.call201 rfl rfl rfl [] [] rfl rfl (g0 rfl) rfl rfl ?_
      rintro _ _ _ ⟨rfl, rfl, rfl⟩
      dsimp only [app]
      exact wa_l (by kernel_rfl) (k_wk (fro (hN4_12 b245 b285 H)) [2, 4, 6, 7, 11, 12, 13] [0] 1 [0, 0, 0, 0] 0 rfl rfl rfl)
    · refine k_alloc rfl rfl Tryz.zeroValue224 (cs := (Arr.zero 0 64 : Arr UInt32 64).l.flatMap E32) rfl (g0 rfl) rfl rfl ?_
      intro b205
      exact wa_l (by kernel_rfl) (k_wk (fro (hN4_26 b205 b245 b285 H)) [2, 4, 5, 6, 7, 11, 13] [0] 1 [0, 0, 0, 0, 0] 0 rfl rfl rfl)
  have hN4_28 : ∀ (b245 : Nat), (jn (fun (x486 : Arr UInt32 8) => jn (fun (x489 : Arr UInt32 8) => some x489) fun J488 => sha_mix_l0 x486 J488 Fuel (0, a0_h)) fun J485 => sha_mix_l1 r85 r125 J485 Fuel (0, a0_h)) = some r → R (Sl E8 A1 c2 a1_b :: D0) (At b245 0 ((Arr.zero 0 64 : Arr UInt32 64).l.flatMap E32) :: At b3 0 (a0_h.l.flatMap E32) :: At b4 0 ((Arr.zero 0 8 : Arr UInt32 8).l.flatMap E32) :: G0) [(2, (.pointer (some ⟨b3, 0, none⟩))), (4, (.pointer (some ⟨b4, 0, none⟩))), (6, (.pointer (some ⟨b245, 0, none⟩))), (11, (.agg (r85.l.flatMap E32).toArray)), (13, (.agg (a0_h.l.flatMap E32).toArray))] 6 #[true, true, false, true, false, true, false, false, false, false] := by
    intro b245 H
    refine to ?_
    refine acs [2, 4, 6] rfl (by kernel_rfl) sl_nil ⟨?_, ?_, ?_, trivial⟩
    · refine k_call (c_sha_constants  r125 Hc126) Tryz.call201 rfl rfl rfl [] [] rfl rfl (g0 rfl) rfl rfl ?_
      rintro _ _ _ ⟨rfl, rfl, rfl⟩
      dsimp only [app]
      exact wa_l (by kernel_rfl) (k_wk (fro (hN4_11 b245 H)) [2, 4, 6, 11, 12, 13] [0] 1 [0, 0, 0] 0 rfl rfl rfl)
    · refine k_alloc rfl rfl Tryz.zeroValue224 (cs := (Arr.zero 0 64 : Arr UInt32 64).l.flatMap E32) rfl (g0 rfl) rfl rfl ?_
      intro b205
      exact wa_l (by kernel_rfl) (k_wk (fro (hN4_25 b205 b245 H)) [2, 4, 5, 6, 11, 13] [0] 1 [0, 0, 0, 0] 0 rfl rfl rfl)
    · refine k_alloc rfl rfl Tryz.zeroValue176 (cs := (Arr.zero 0 8 : Arr UInt32 8).l.flatMap E32) rfl (g0 rfl) rfl rfl ?_
      intro b285
      exact wa_l (by kernel_rfl) (k_wk (fro (hN4_29 b245 b285 H)) [2, 4, 6, 7, 11, 13] [0] 1 [1, 0, 0, 0] 0 rfl rfl rfl)
  have hN4_30 : ∀ (b285 : Nat), (jn (fun (x486 : Arr UInt32 8) => jn (fun (x489 : Arr UInt32 8) => some x489) fun J488 => sha_mix_l0 x486 J488 Fuel (0, a0_h)) fun J485 => sha_mix_l1 r85 r125 J485 Fuel (0, a0_h)) = some r → R (Sl E8 A1 c2 a1_b :: D0) (At b285 0 ((Arr.zero 0 8 : Arr UInt32 8).l.flatMap E32) :: At b3 0 (a0_h.l.flatMap E32) :: At b4 0 ((Arr.zero 0 8 : Arr UInt32 8).l.flatMap E32) :: G0) [(2, (.pointer (some ⟨b3, 0, none⟩))), (4, (.pointer (some ⟨b4, 0, none⟩))), (7, (.pointer (some ⟨b285, 0, none⟩))), (11, (.agg (r85.l.flatMap E32).toArray)), (13, (.agg (a0_h.l.flatMap E32).toArray))] 6 #[true, true, false, true, false, false, true, false, false, false] := by
    intro b285 H
    refine to ?_
    refine acs [2, 4, 5] rfl (by kernel_rfl) sl_nil ⟨?_, ?_, ?_, trivial⟩
    · refine k_call (c_sha_constants  r125 Hc126) Tryz.call201 rfl rfl rfl [] [] rfl rfl (g0 rfl) rfl rfl ?_
      rintro _ _ _ ⟨rfl, rfl, rfl⟩
      dsimp only [app]
      exact wa_l (by kernel_rfl) (k_wk (fro (hN4_13 b285 H)) [2, 4, 7, 11, 12, 13] [0] 1 [0, 0, 0] 0 rfl rfl rfl)
    · refine k_alloc rfl rfl Tryz.zeroValue224 (cs := (Arr.zero 0 64 : Arr UInt32 64).l.flatMap E32) rfl (g0 rfl) rfl rfl ?_
      intro b205
      exact wa_l (by kernel_rfl) (k_wk (fro (hN4_27 b205 b285 H)) [2, 4, 5, 7, 11, 13] [0] 1 [0, 0, 0, 0] 0 rfl rfl rfl)
    · refine k_alloc rfl rfl Tryz.zeroValue224 (cs := (Arr.zero 0 64 : Arr UInt32 64).l.flatMap E32) rfl (g0 rfl) rfl rfl ?_
      intro b245
      exact wa_l (by kernel_rfl) (k_wk (fro (hN4_29 b245 b285 H)) [2, 4, 6, 7, 11, 13] [0] 1 [0, 0, 0, 0] 0 rfl rfl rfl)
  have hN4_23 : (jn (fun (x486 : Arr UInt32 8) => jn (fun (x489 : Arr UInt32 8) => some x489) fun J488 => sha_mix_l0 x486 J488 Fuel (0, a0_h)) fun J485 => sha_mix_l1 r85 r125 J485 Fuel (0, a0_h)) = some r → R (Sl E8 A1 c2 a1_b :: D0) (At b3 0 (a0_h.l.flatMap E32) :: At b4 0 ((Arr.zero 0 8 : Arr UInt32 8).l.flatMap E32) :: G0) [(2, (.pointer (some ⟨b3, 0, none⟩))), (4, (.pointer (some ⟨b4, 0, none⟩))), (11, (.agg (r85.l.flatMap E32).toArray)), (13, (.agg (a0_h.l.flatMap E32).toArray))] 7 #[true, true, false, true, false, false, false, false, false, false] := by
    intro H
    refine to ?_
    refine acs [2, 4, 5, 6] rfl (by kernel_rfl) sl_nil ⟨?_, ?_, ?_, ?_, trivial⟩
    · refine k_call (c_sha_constants  r125 Hc126) Tryz.call201 rfl rfl rfl [] [] rfl rfl (g0 rfl) rfl rfl ?_
      rintro _ _ _ ⟨rfl, rfl, rfl⟩
      dsimp only [app]
      exact wa_l (by kernel_rfl) (k_wk (fro (hN4_3 H)) [2, 4, 11, 12, 13] [0] 1 [0, 0] 0 rfl rfl rfl)
    · refine k_alloc rfl rfl Tryz.zeroValue224 (cs := (Arr.zero 0 64 : Arr UInt32 64).l.flatMap E32) rfl (g0 rfl) rfl rfl ?_
      intro b205
      exact wa_l (by kernel_rfl) (k_wk (fro (hN4_24 b205 H)) [2, 4, 5, 11, 13] [0] 1 [0, 0, 0] 0 rfl rfl rfl)
    · refine k_alloc rfl rfl Tryz.zeroValue224 (cs := (Arr.zero 0 64 : Arr UInt32 64).l.flatMap E32) rfl (g0 rfl) rfl rfl ?_
      intro b245
      exact wa_l (by kernel_rfl) (k_wk (fro (hN4_28 b245 H)) [2, 4, 6, 11, 13] [0] 1 [0, 0, 0] 0 rfl rfl rfl)
    · refine k_alloc rfl rfl Tryz.zeroValue176 (cs := (Arr.zero 0 8 : Arr UInt32 8).l.flatMap E32) rfl (g0 rfl) rfl rfl ?_
      intro b285
      exact wa_l (by kernel_rfl) (k_wk (fro (hN4_30 b285 H)) [2, 4, 7, 11, 13] [0] 1 [0, 0, 0] 0 rfl rfl rfl)
  have hN4_33 : ∀ (b205 : Nat), ∀ (b245 : Nat), ∀ (b285 : Nat), (jn (fun (x486 : Arr UInt32 8) => jn (fun (x489 : Arr UInt32 8) => some x489) fun J488 => sha_mix_l0 x486 J488 Fuel (0, a0_h)) fun J485 => sha_mix_l1 r85 r125 J485 Fuel (0, a0_h)) = some r → R (Sl E8 A1 c2 a1_b :: D0) (At b205 0 ((Arr.zero 0 64 : Arr UInt32 64).l.flatMap E32) :: At b245 0 ((Arr.zero 0 64 : Arr UInt32 64).l.flatMap E32) :: At b285 0 ((Arr.zero 0 8 : Arr UInt32 8).l.flatMap E32) :: At b3 0 (a0_h.l.flatMap E32) :: At b4 0 ((Arr.zero 0 8 : Arr UInt32 8).l.flatMap E32) :: G0) [(2, (.pointer (some ⟨b3, 0, none⟩))), (4, (.pointer (some ⟨b4, 0, none⟩))), (5, (.pointer (some ⟨b205, 0, none⟩))), (6, (.pointer (some ⟨b245, 0, none⟩))), (7, (.pointer (some ⟨b285, 0, none⟩))), (11, (.agg (r85.l.flatMap E32).toArray))] 5 #[true, true, false, false, true, true, true, false, false, false] := by
    intro b205 b245 b285 H
    refine to ?_
    refine acs [2, 3] rfl (by kernel_rfl) sl_nil ⟨?_, ?_, trivial⟩
    · refine k_call (c_sha_constants  r125 Hc126) Tryz.call201 rfl rfl rfl [] [] rfl rfl (g0 rfl) rfl rfl ?_
      rintro _ _ _ ⟨rfl, rfl, rfl⟩
      dsimp only [app]
      exact wa_l (by kernel_rfl) (k_wk (fro (hN4_16 b205 b245 b285 H)) [2, 4, 5, 6, 7, 11, 12] [0] 1 [0, 0, 0, 0, 0] 0 rfl rfl rfl)
    · refine k_ld (hG 3 rfl) rfl (ev_ldN (j := 0) rfl rfl Tryz.isAgg176 (sz (arr_len E32_len _ rfl) Tryz.sizeOf176) (sub_all _) rfl) (g0 rfl) rfl rfl ?_
      exact wa_l (by kernel_rfl) (k_wk (fro (hN4_26 b205 b245 b285 H)) [2, 4, 5, 6, 7, 11, 13] [0] 1 [0, 0, 0, 0, 0] 0 rfl rfl rfl)
  have hN4_32 : ∀ (b205 : Nat), ∀ (b245 : Nat), (jn (fun (x486 : Arr UInt32 8) => jn (fun (x489 : Arr UInt32 8) => some x489) fun J488 => sha_mix_l0 x486 J488 Fuel (0, a0_h)) fun J485 => sha_mix_l1 r85 r125 J485 Fuel (0, a0_h)) = some r → R (Sl E8 A1 c2 a1_b :: D0) (At b205 0 ((Arr.zero 0 64 : Arr UInt32 64).l.flatMap E32) :: At b245 0 ((Arr.zero 0 64 : Arr UInt32 64).l.flatMap E32) :: At b3 0 (a0_h.l.flatMap E32) :: At b4 0 ((Arr.zero 0 8 : Arr UInt32 8).l.flatMap E32) :: G0) [(2, (.pointer (some ⟨b3, 0, none⟩))), (4, (.pointer (some ⟨b4, 0, none⟩))), (5, (.pointer (some ⟨b205, 0, none⟩))), (6, (.pointer (some ⟨b245, 0, none⟩))), (11, (.agg (r85.l.flatMap E32).toArray))] 6 #[true, true, false, false, true, true, false, false, false, false] := by
    intro b205 b245 H
    refine to ?_
    refine acs [2, 3, 6] rfl (by kernel_rfl) sl_nil ⟨?_, ?_, ?_, trivial⟩
    · refine k_call (c_sha_constants  r125 Hc126) Tryz.call201 rfl rfl rfl [] [] rfl rfl (g0 rfl) rfl rfl ?_
      rintro _ _ _ ⟨rfl, rfl, rfl⟩
      dsimp only [app]
      exact wa_l (by kernel_rfl) (k_wk (fro (hN4_15 b205 b245 H)) [2, 4, 5, 6, 11, 12] [0] 1 [0, 0, 0, 0] 0 rfl rfl rfl)
    · refine k_ld (hG 2 rfl) rfl (ev_ldN (j := 0) rfl rfl Tryz.isAgg176 (sz (arr_len E32_len _ rfl) Tryz.sizeOf176) (sub_all _) rfl) (g0 rfl) rfl rfl ?_
      exact wa_l (by kernel_rfl) (k_wk (fro (hN4_25 b205 b245 H)) [2, 4, 5, 6, 11, 13] [0] 1 [0, 0, 0, 0] 0 rfl rfl rfl)
    · refine k_alloc rfl rfl Tryz.zeroValue176 (cs := (Arr.zero 0 8 : Arr UInt32 8).l.flatMap E32) rfl (g0 rfl) rfl rfl ?_
      intro b285
      exact wa_l (by kernel_rfl) (k_wk (fro (hN4_33 b205 b245 b285 H)) [2, 4, 5, 6, 7, 11] [0] 1 [1, 1, 0, 0, 0] 0 rfl rfl rfl)
  have hN4_34 : ∀ (b205 : Nat), ∀ (b285 : Nat), (jn (fun (x486 : Arr UInt32 8) => jn (fun (x489 : Arr UInt32 8) => some x489) fun J488 => sha_mix_l0 x486 J488 Fuel (0, a0_h)) fun J485 => sha_mix_l1 r85 r125 J485 Fuel (0, a0_h)) = some r → R (Sl E8 A1 c2 a1_b :: D0) (At b205 0 ((Arr.zero 0 64 : Arr UInt32 64).l.flatMap E32) :: At b285 0 ((Arr.zero 0 8 : Arr UInt32 8).l.flatMap E32) :: At b3 0 (a0_h.l.flatMap E32) :: At b4 0 ((Arr.zero 0 8 : Arr UInt32 8).l.flatMap E32) :: G0) [(2, (.pointer (some ⟨b3, 0, none⟩))), (4, (.pointer (some ⟨b4, 0, none⟩))), (5, (.pointer (some ⟨b205, 0, none⟩))), (7, (.pointer (some ⟨b285, 0, none⟩))), (11, (.agg (r85.l.flatMap E32).toArray))] 6 #[true, true, false, false, true, false, true, false, false, false] := by
    intro b205 b285 H
    refine to ?_
    refine acs [2, 3, 5] rfl (by kernel_rfl) sl_nil ⟨?_, ?_, ?_, trivial⟩
    · refine k_call (c_sha_constants  r125 Hc126) Tryz.call201 rfl rfl rfl [] [] rfl rfl (g0 rfl) rfl rfl ?_
      rintro _ _ _ ⟨rfl, rfl, rfl⟩
      dsimp only [app]
      exact wa_l (by kernel_rfl) (k_wk (fro (hN4_19 b205 b285 H)) [2, 4, 5, 7, 11, 12] [0] 1 [0, 0, 0, 0] 0 rfl rfl rfl)
    · refine k_ld (hG 2 rfl) rfl (ev_ldN (j := 0) rfl rfl Tryz.isAgg176 (sz (arr_len E32_len _ rfl) Tryz.sizeOf176) (sub_all _) rfl) (g0 rfl) rfl rfl ?_
      exact wa_l (by kernel_rfl) (k_wk (fro (hN4_27 b205 b285 H)) [2, 4, 5, 7, 11, 13] [0] 1 [0, 0, 0, 0] 0 rfl rfl rfl)
    · refine k_alloc rfl rfl Tryz.zeroValue224 (cs := (Arr.zero 0 64 : Arr UInt32 64).l.flatMap E32) rfl (g0 rfl) rfl rfl ?_
      intro b245
      exact wa_l (by kernel_rfl) (k_wk (fro (hN4_33 b205 b245 b285 H)) [2, 4, 5, 6, 7, 11] [0] 1 [1, 0, 0, 0, 0] 0 rfl rfl rfl)
  have hN4_31 : ∀ (b205 : Nat), (jn (fun (x486 : Arr UInt32 8) => jn (fun (x489 : Arr UInt32 8) => some x489) fun J488 => sha_mix_l0 x486 J488 Fuel (0, a0_h)) fun J485 => sha_mix_l1 r85 r125 J485 Fuel (0, a0_h)) = some r → R (Sl E8 A1 c2 a1_b :: D0) (At b205 0 ((Arr.zero 0 64 : Arr UInt32 64).l.flatMap E32) :: At b3 0 (a0_h.l.flatMap E32) :: At b4 0 ((Arr.zero 0 8 : Arr UInt32 8).l.flatMap E32) :: G0) [(2, (.pointer (some ⟨b3, 0, none⟩))), (4, (.pointer (some ⟨b4, 0, none⟩))), (5, (.pointer (some ⟨b205, 0, none⟩))), (11, (.agg (r85.l.flatMap E32).toArray))] 7 #[true, true, false, false, true, false, false, false, false, false] := by
    intro b205 H
    refine to ?_
    refine acs [2, 3, 5, 6] rfl (by kernel_rfl) sl_nil ⟨?_, ?_, ?_, ?_, trivial⟩
    · refine k_call (c_sha_constants  r125 Hc126) Tryz.call201 rfl rfl rfl [] [] rfl rfl (g0 rfl) rfl rfl ?_
      rintro _ _ _ ⟨rfl, rfl, rfl⟩
      dsimp only [app]
      exact wa_l (by kernel_rfl) (k_wk (fro (hN4_14 b205 H)) [2, 4, 5, 11, 12] [0] 1 [0, 0, 0] 0 rfl rfl rfl)
    · refine k_ld (hG 1 rfl) rfl (ev_ldN (j := 0) rfl rfl Tryz.isAgg176 (sz (arr_len E32_len _ rfl) Tryz.sizeOf176) (sub_all _) rfl) (g0 rfl) rfl rfl ?_
      exact wa_l (by kernel_rfl) (k_wk (fro (hN4_24 b205 H)) [2, 4, 5, 11, 13] [0] 1 [0, 0, 0] 0 rfl rfl rfl)
    · refine k_alloc rfl rfl Tryz.zeroValue224 (cs := (Arr.zero 0 64 : Arr UInt32 64).l.flatMap E32) rfl (g0 rfl) rfl rfl ?_
      intro b245
      exact wa_l (by kernel_rfl) (k_wk (fro (hN4_32 b205 b245 H)) [2, 4, 5, 6, 11] [0] 1 [1, 0, 0, 0] 0 rfl rfl rfl)
    · refine k_alloc rfl rfl Tryz.zeroValue176 (cs := (Arr.zero 0 8 : Arr UInt32 8).l.flatMap E32) rfl (g0 rfl) rfl rfl ?_
      intro b285
      exact wa_l (by kernel_rfl) (k_wk (fro (hN4_34 b205 b285 H)) [2, 4, 5, 7, 11] [0] 1 [1, 0, 0, 0] 0 rfl rfl rfl)
  have hN4_36 : ∀ (b245 : Nat), ∀ (b285 : Nat), (jn (fun (x486 : Arr UInt32 8) => jn (fun (x489 : Arr UInt32 8) => some x489) fun J488 => sha_mix_l0 x486 J488 Fuel (0, a0_h)) fun J485 => sha_mix_l1 r85 r125 J485 Fuel (0, a0_h)) = some r → R (Sl E8 A1 c2 a1_b :: D0) (At b245 0 ((Arr.zero 0 64 : Arr UInt32 64).l.flatMap E32) :: At b285 0 ((Arr.zero 0 8 : Arr UInt32 8).l.flatMap E32) :: At b3 0 (a0_h.l.flatMap E32) :: At b4 0 ((Arr.zero 0 8 : Arr UInt32 8).l.flatMap E32) :: G0) [(2, (.pointer (some ⟨b3, 0, none⟩))), (4, (.pointer (some ⟨b4, 0, none⟩))), (6, (.pointer (some ⟨b245, 0, none⟩))), (7, (.pointer (some ⟨b285, 0, none⟩))), (11, (.agg (r85.l.flatMap E32).toArray))] 6 #[true, true, false, false, false, true, true, false, false, false] := by
    intro b245 b285 H
    refine to ?_
    refine acs [2, 3, 4] rfl (by kernel_rfl) sl_nil ⟨?_, ?_, ?_, trivial⟩
    · refine k_call (c_sha_constants  r125 Hc126) Tryz.call201 rfl rfl rfl [] [] rfl rfl (g0 rfl) rfl rfl ?_
      rintro _ _ _ ⟨rfl, rfl, rfl⟩
      dsimp only [app]
      exact wa_l (by kernel_rfl) (k_wk (fro (hN4_21 b245 b285 H)) [2, 4, 6, 7, 11, 12] [0] 1 [0, 0, 0, 0] 0 rfl rfl rfl)
    · refine k_ld (hG 2 rfl) rfl (ev_ldN (j := 0) rfl rfl Tryz.isAgg176 (sz (arr_len E32_len _ rfl) Tryz.sizeOf176) (sub_all _) rfl) (g0 rfl) rfl rfl ?_
      exact wa_l (by kernel_rfl) (k_wk (fro (hN4_29 b245 b285 H)) [2, 4, 6, 7, 11, 13] [0] 1 [0, 0, 0, 0] 0 rfl rfl rfl)
    · refine k_alloc rfl rfl Tryz.zeroValue224 (cs := (Arr.zero 0 64 : Arr UInt32 64).l.flatMap E32) rfl (g0 rfl) rfl rfl ?_
      intro b205
      exact wa_l (by kernel_rfl) (k_wk (fro (hN4_33 b205 b245 b285 H)) [2, 4, 5, 6, 7, 11] [0] 1 [0, 0, 0, 0, 0] 0 rfl rfl rfl)
  have hN4_35 : ∀ (b245 : Nat), (jn (fun (x486 : Arr UInt32 8) => jn (fun (x489 : Arr UInt32 8) => some x489) fun J488 => sha_mix_l0 x486 J488 Fuel (0, a0_h)) fun J485 => sha_mix_l1 r85 r125 J485 Fuel (0, a0_h)) = some r → R (Sl E8 A1 c2 a1_b :: D0) (At b245 0 ((Arr.zero 0 64 : Arr UInt32 64).l.flatMap E32) :: At b3 0 (a0_h.l.flatMap E32) :: At b4 0 ((Arr.zero 0 8 : Arr UInt32 8).l.flatMap E32) :: G0) [(2, (.pointer (some ⟨b3, 0, none⟩))), (4, (.pointer (some ⟨b4, 0, none⟩))), (6, (.pointer (some ⟨b245, 0, none⟩))), (11, (.agg (r85.l.flatMap E32).toArray))] 7 #[true, true, false, false, false, true, false, false, false, false] := by
    intro b245 H
    refine to ?_
    refine acs [2, 3, 4, 6] rfl (by kernel_rfl) sl_nil ⟨?_, ?_, ?_, ?_, trivial⟩
    · refine k_call (c_sha_constants  r125 Hc126) Tryz.call201 rfl rfl rfl [] [] rfl rfl (g0 rfl) rfl rfl ?_
      rintro _ _ _ ⟨rfl, rfl, rfl⟩
      dsimp only [app]
      exact wa_l (by kernel_rfl) (k_wk (fro (hN4_20 b245 H)) [2, 4, 6, 11, 12] [0] 1 [0, 0, 0] 0 rfl rfl rfl)
    · refine k_ld (hG 1 rfl) rfl (ev_ldN (j := 0) rfl rfl Tryz.isAgg176 (sz (arr_len E32_len _ rfl) Tryz.sizeOf176) (sub_all _) rfl) (g0 rfl) rfl rfl ?_
      exact wa_l (by kernel_rfl) (k_wk (fro (hN4_28 b245 H)) [2, 4, 6, 11, 13] [0] 1 [0, 0, 0] 0 rfl rfl rfl)
    · refine k_alloc rfl rfl Tryz.zeroValue224 (cs := (Arr.zero 0 64 : Arr UInt32 64).l.flatMap E32) rfl (g0 rfl) rfl rfl ?_
      intro b205
      exact wa_l (by kernel_rfl) (k_wk (fro (hN4_32 b205 b245 H)) [2, 4, 5, 6, 11] [0] 1 [0, 0, 0, 0] 0 rfl rfl rfl)
    · refine k_alloc rfl rfl Tryz.zeroValue176 (cs := (Arr.zero 0 8 : Arr UInt32 8).l.flatMap E32) rfl (g0 rfl) rfl rfl ?_
      intro b285
      exact wa_l (by kernel_rfl) (k_wk (fro (hN4_36 b245 b285 H)) [2, 4, 6, 7, 11] [0] 1 [1, 0, 0, 0] 0 rfl rfl rfl)
  have hN4_37 : ∀ (b285 : Nat), (jn (fun (x486 : Arr UInt32 8) => jn (fun (x489 : Arr UInt32 8) => some x489) fun J488 => sha_mix_l0 x486 J488 Fuel (0, a0_h)) fun J485 => sha_mix_l1 r85 r125 J485 Fuel (0, a0_h)) = some r → R (Sl E8 A1 c2 a1_b :: D0) (At b285 0 ((Arr.zero 0 8 : Arr UInt32 8).l.flatMap E32) :: At b3 0 (a0_h.l.flatMap E32) :: At b4 0 ((Arr.zero 0 8 : Arr UInt32 8).l.flatMap E32) :: G0) [(2, (.pointer (some ⟨b3, 0, none⟩))), (4, (.pointer (some ⟨b4, 0, none⟩))), (7, (.pointer (some ⟨b285, 0, none⟩))), (11, (.agg (r85.l.flatMap E32).toArray))] 7 #[true, true, false, false, false, false, true, false, false, false] := by
    intro b285 H
    refine to ?_
    refine acs [2, 3, 4, 5] rfl (by kernel_rfl) sl_nil ⟨?_, ?_, ?_, ?_, trivial⟩
    · refine k_call (c_sha_constants  r125 Hc126) Tryz.call201 rfl rfl rfl [] [] rfl rfl (g0 rfl) rfl rfl ?_
      rintro _ _ _ ⟨rfl, rfl, rfl⟩
      dsimp only [app]
      exact wa_l (by kernel_rfl) (k_wk (fro (hN4_22 b285 H)) [2, 4, 7, 11, 12] [0] 1 [0, 0, 0] 0 rfl rfl rfl)
    · refine k_ld (hG 1 rfl) rfl (ev_ldN (j := 0) rfl rfl Tryz.isAgg176 (sz (arr_len E32_len _ rfl) Tryz.sizeOf176) (sub_all _) rfl) (g0 rfl) rfl rfl ?_
      exact wa_l (by kernel_rfl) (k_wk (fro (hN4_30 b285 H)) [2, 4, 7, 11, 13] [0] 1 [0, 0, 0] 0 rfl rfl rfl)
    · refine k_alloc rfl rfl Tryz.zeroValue224 (cs := (Arr.zero 0 64 : Arr UInt32 64).l.flatMap E32) rfl (g0 rfl) rfl rfl ?_
      intro b205
      exact wa_l (by kernel_rfl) (k_wk (fro (hN4_34 b205 b285 H)) [2, 4, 5, 7, 11] [0] 1 [0, 0, 0, 0] 0 rfl rfl rfl)
    · refine k_alloc rfl rfl Tryz.zeroValue224 (cs := (Arr.zero 0 64 : Arr UInt32 64).l.flatMap E32) rfl (g0 rfl) rfl rfl ?_
      intro b245
      exact wa_l (by kernel_rfl) (k_wk (fro (hN4_36 b245 b285 H)) [2, 4, 6, 7, 11] [0] 1 [0, 0, 0, 0] 0 rfl rfl rfl)
  have hN4_1 : (jn (fun (x486 : Arr UInt32 8) => jn (fun (x489 : Arr UInt32 8) => some x489) fun J488 => sha_mix_l0 x486 J488 Fuel (0, a0_h)) fun J485 => sha_mix_l1 r85 r125 J485 Fuel (0, a0_h)) = some r → R (Sl E8 A1 c2 a1_b :: D0) (At b3 0 (a0_h.l.flatMap E32) :: At b4 0 ((Arr.zero 0 8 : Arr UInt32 8).l.flatMap E32) :: G0) [(2, (.pointer (some ⟨b3, 0, none⟩))), (4, (.pointer (some ⟨b4, 0, none⟩))), (11, (.agg (r85.l.flatMap E32).toArray))] 8 #[true, true, false, false, false, false, false, false, false, false] := by
    intro H
    refine to ?_
    refine acs [2, 3, 4, 5, 6] rfl (by kernel_rfl) sl_nil ⟨?_, ?_, ?_, ?_, ?_, trivial⟩
    · refine k_call (c_sha_constants  r125 Hc126) Tryz.call201 rfl rfl rfl [] [] rfl rfl (g0 rfl) rfl rfl ?_
      rintro _ _ _ ⟨rfl, rfl, rfl⟩
      dsimp only [app]
      exact wa_l (by kernel_rfl) (k_wk (fro (hN4_2 H)) [2, 4, 11, 12] [0] 1 [0, 0] 0 rfl rfl rfl)
    · refine k_ld (hG 0 rfl) rfl (ev_ldN (j := 0) rfl rfl Tryz.isAgg176 (sz (arr_len E32_len _ rfl) Tryz.sizeOf176) (sub_all _) rfl) (g0 rfl) rfl rfl ?_
      exact wa_l (by kernel_rfl) (k_wk (fro (hN4_23 H)) [2, 4, 11, 13] [0] 1 [0, 0] 0 rfl rfl rfl)
    · refine k_alloc rfl rfl Tryz.zeroValue224 (cs := (Arr.zero 0 64 : Arr UInt32 64).l.flatMap E32) rfl (g0 rfl) rfl rfl ?_
      intro b205
      exact wa_l (by kernel_rfl) (k_wk (fro (hN4_31 b205 H)) [2, 4, 5, 11] [0] 1 [0, 0, 0] 0 rfl rfl rfl)
    · refine k_alloc rfl rfl Tryz.zeroValue224 (cs := (Arr.zero 0 64 : Arr UInt32 64).l.flatMap E32) rfl (g0 rfl) rfl rfl ?_
      intro b245
      exact wa_l (by kernel_rfl) (k_wk (fro (hN4_35 b245 H)) [2, 4, 6, 11] [0] 1 [0, 0, 0] 0 rfl rfl rfl)
    · refine k_alloc rfl rfl Tryz.zeroValue176 (cs := (Arr.zero 0 8 : Arr UInt32 8).l.flatMap E32) rfl (g0 rfl) rfl rfl ?_
      intro b285
      exact wa_l (by kernel_rfl) (k_wk (fro (hN4_37 b285 H)) [2, 4, 7, 11] [0] 1 [0, 0, 0] 0 rfl rfl rfl)
  have hN4_41 : ∀ (b205 : Nat), ∀ (b245 : Nat), ∀ (b285 : Nat), (jn (fun (x486 : Arr UInt32 8) => jn (fun (x489 : Arr UInt32 8) => some x489) fun J488 => sha_mix_l0 x486 J488 Fuel (0, a0_h)) fun J485 => sha_mix_l1 r85 r125 J485 Fuel (0, a0_h)) = some r → R (Sl E8 A1 c2 a1_b :: D0) (At b205 0 ((Arr.zero 0 64 : Arr UInt32 64).l.flatMap E32) :: At b245 0 ((Arr.zero 0 64 : Arr UInt32 64).l.flatMap E32) :: At b285 0 ((Arr.zero 0 8 : Arr UInt32 8).l.flatMap E32) :: At b3 0 (a0_h.l.flatMap E32) :: At b4 0 ((Arr.zero 0 8 : Arr UInt32 8).l.flatMap E32) :: G0) [(2, (.pointer (some ⟨b3, 0, none⟩))), (4, (.pointer (some ⟨b4, 0, none⟩))), (5, (.pointer (some ⟨b205, 0, none⟩))), (6, (.pointer (some ⟨b245, 0, none⟩))), (7, (.pointer (some ⟨b285, 0, none⟩))), (10, (.slice A1 a1_b.length c2)), (13, (.agg (a0_h.l.flatMap E32).toArray))] 5 #[true, false, false, true, true, true, true, false, false, false] := by
    intro b205 b245 b285 H
    refine to ?_
    refine acs [1] rfl (by kernel_rfl) sl_nil ⟨?_, trivial⟩
    · refine k_call (c_sha_spread a1_b A1 c2 r85 Hc86) Tryz.call200 rfl rfl rfl [0] [] rfl rfl (g0 rfl) rfl rfl ?_
      rintro _ _ _ ⟨rfl, rfl, rfl⟩
      dsimp only [app]
      exact wa_l (by kernel_rfl) (k_wk (fro (hN4_26 b205 b245 b285 H)) [2, 4, 5, 6, 7, 11, 13] [0] 1 [0, 0, 0, 0, 0] 0 rfl rfl rfl)
  have hN4_40 : ∀ (b205 : Nat), ∀ (b245 : Nat), (jn (fun (x486 : Arr UInt32 8) => jn (fun (x489 : Arr UInt32 8) => some x489) fun J488 => sha_mix_l0 x486 J488 Fuel (0, a0_h)) fun J485 => sha_mix_l1 r85 r125 J485 Fuel (0, a0_h)) = some r → R (Sl E8 A1 c2 a1_b :: D0) (At b205 0 ((Arr.zero 0 64 : Arr UInt32 64).l.flatMap E32) :: At b245 0 ((Arr.zero 0 64 : Arr UInt32 64).l.flatMap E32) :: At b3 0 (a0_h.l.flatMap E32) :: At b4 0 ((Arr.zero 0 8 : Arr UInt32 8).l.flatMap E32) :: G0) [(2, (.pointer (some ⟨b3, 0, none⟩))), (4, (.pointer (some ⟨b4, 0, none⟩))), (5, (.pointer (some ⟨b205, 0, none⟩))), (6, (.pointer (some ⟨b245, 0, none⟩))), (10, (.slice A1 a1_b.length c2)), (13, (.agg (a0_h.l.flatMap E32).toArray))] 6 #[true, false, false, true, true, true, false, false, false, false] := by
    intro b205 b245 H
    refine to ?_
    refine acs [1, 6] rfl (by kernel_rfl) sl_nil ⟨?_, ?_, trivial⟩
    · refine k_call (c_sha_spread a1_b A1 c2 r85 Hc86) Tryz.call200 rfl rfl rfl [0] [] rfl rfl (g0 rfl) rfl rfl ?_
      rintro _ _ _ ⟨rfl, rfl, rfl⟩
      dsimp only [app]
      exact wa_l (by kernel_rfl) (k_wk (fro (hN4_25 b205 b245 H)) [2, 4, 5, 6, 11, 13] [0] 1 [0, 0, 0, 0] 0 rfl rfl rfl)
    · refine k_alloc rfl rfl Tryz.zeroValue176 (cs := (Arr.zero 0 8 : Arr UInt32 8).l.flatMap E32) rfl (g0 rfl) rfl rfl ?_
      intro b285
      exact wa_l (by kernel_rfl) (k_wk (fro (hN4_41 b205 b245 b285 H)) [2, 4, 5, 6, 7, 10, 13] [0] 1 [1, 1, 0, 0, 0] 0 rfl rfl rfl)
  have hN4_42 : ∀ (b205 : Nat), ∀ (b285 : Nat), (jn (fun (x486 : Arr UInt32 8) => jn (fun (x489 : Arr UInt32 8) => some x489) fun J488 => sha_mix_l0 x486 J488 Fuel (0, a0_h)) fun J485 => sha_mix_l1 r85 r125 J485 Fuel (0, a0_h)) = some r → R (Sl E8 A1 c2 a1_b :: D0) (At b205 0 ((Arr.zero 0 64 : Arr UInt32 64).l.flatMap E32) :: At b285 0 ((Arr.zero 0 8 : Arr UInt32 8).l.flatMap E32) :: At b3 0 (a0_h.l.flatMap E32) :: At b4 0 ((Arr.zero 0 8 : Arr UInt32 8).l.flatMap E32) :: G0) [(2, (.pointer (some ⟨b3, 0, none⟩))), (4, (.pointer (some ⟨b4, 0, none⟩))), (5, (.pointer (some ⟨b205, 0, none⟩))), (7, (.pointer (some ⟨b285, 0, none⟩))), (10, (.slice A1 a1_b.length c2)), (13, (.agg (a0_h.l.flatMap E32).toArray))] 6 #[true, false, false, true, true, false, true, false, false, false] := by
    intro b205 b285 H
    refine to ?_
    refine acs [1, 5] rfl (by kernel_rfl) sl_nil ⟨?_, ?_, trivial⟩
    · refine k_call (c_sha_spread a1_b A1 c2 r85 Hc86) Tryz.call200 rfl rfl rfl [0] [] rfl rfl (g0 rfl) rfl rfl ?_
      rintro _ _ _ ⟨rfl, rfl, rfl⟩
      dsimp only [app]
      exact wa_l (by kernel_rfl) (k_wk (fro (hN4_27 b205 b285 H)) [2, 4, 5, 7, 11, 13] [0] 1 [0, 0, 0, 0] 0 rfl rfl rfl)
    · refine k_alloc rfl rfl Tryz.zeroValue224 (cs := (Arr.zero 0 64 : Arr UInt32 64).l.flatMap E32) rfl (g0 rfl) rfl rfl ?_
      intro b245
      exact wa_l (by kernel_rfl) (k_wk (fro (hN4_41 b205 b245 b285 H)) [2, 4, 5, 6, 7, 10, 13] [0] 1 [1, 0, 0, 0, 0] 0 rfl rfl rfl)
  have hN4_39 : ∀ (b205 : Nat), (jn (fun (x486 : Arr UInt32 8) => jn (fun (x489 : Arr UInt32 8) => some x489) fun J488 => sha_mix_l0 x486 J488 Fuel (0, a0_h)) fun J485 => sha_mix_l1 r85 r125 J485 Fuel (0, a0_h)) = some r → R (Sl E8 A1 c2 a1_b :: D0) (At b205 0 ((Arr.zero 0 64 : Arr UInt32 64).l.flatMap E32) :: At b3 0 (a0_h.l.flatMap E32) :: At b4 0 ((Arr.zero 0 8 : Arr UInt32 8).l.flatMap E32) :: G0) [(2, (.pointer (some ⟨b3, 0, none⟩))), (4, (.pointer (some ⟨b4, 0, none⟩))), (5, (.pointer (some ⟨b205, 0, none⟩))), (10, (.slice A1 a1_b.length c2)), (13, (.agg (a0_h.l.flatMap E32).toArray))] 7 #[true, false, false, true, true, false, false, false, false, false] := by
    intro b205 H
    refine to ?_
    refine acs [1, 5, 6] rfl (by kernel_rfl) sl_nil ⟨?_, ?_, ?_, trivial⟩
    · refine k_call (c_sha_spread a1_b A1 c2 r85 Hc86) Tryz.call200 rfl rfl rfl [0] [] rfl rfl (g0 rfl) rfl rfl ?_
      rintro _ _ _ ⟨rfl, rfl, rfl⟩
      dsimp only [app]
      exact wa_l (by kernel_rfl) (k_wk (fro (hN4_24 b205 H)) [2, 4, 5, 11, 13] [0] 1 [0, 0, 0] 0 rfl rfl rfl)
    · refine k_alloc rfl rfl Tryz.zeroValue224 (cs := (Arr.zero 0 64 : Arr UInt32 64).l.flatMap E32) rfl (g0 rfl) rfl rfl ?_
      intro b245
      exact wa_l (by kernel_rfl) (k_wk (fro (hN4_40 b205 b245 H)) [2, 4, 5, 6, 10, 13] [0] 1 [1, 0, 0, 0] 0 rfl rfl rfl)
    · refine k_alloc rfl rfl Tryz.zeroValue176 (cs := (Arr.zero 0 8 : Arr UInt32 8).l.flatMap E32) rfl (g0 rfl) rfl rfl ?_
      intro b285
      exact wa_l (by kernel_rfl) (k_wk (fro (hN4_42 b205 b285 H)) [2, 4, 5, 7, 10, 13] [0] 1 [1, 0, 0, 0] 0 rfl rfl rfl)
  have hN4_44 : ∀ (b245 : Nat), ∀ (b285 : Nat), (jn (fun (x486 : Arr UInt32 8) => jn (fun (x489 : Arr UInt32 8) => some x489) fun J488 => sha_mix_l0 x486 J488 Fuel (0, a0_h)) fun J485 => sha_mix_l1 r85 r125 J485 Fuel (0, a0_h)) = some r → R (Sl E8 A1 c2 a1_b :: D0) (At b245 0 ((Arr.zero 0 64 : Arr UInt32 64).l.flatMap E32) :: At b285 0 ((Arr.zero 0 8 : Arr UInt32 8).l.flatMap E32) :: At b3 0 (a0_h.l.flatMap E32) :: At b4 0 ((Arr.zero 0 8 : Arr UInt32 8).l.flatMap E32) :: G0) [(2, (.pointer (some ⟨b3, 0, none⟩))), (4, (.pointer (some ⟨b4, 0, none⟩))), (6, (.pointer (some ⟨b245, 0, none⟩))), (7, (.pointer (some ⟨b285, 0, none⟩))), (10, (.slice A1 a1_b.length c2)), (13, (.agg (a0_h.l.flatMap E32).toArray))] 6 #[true, false, false, true, false, true, true, false, false, false] := by
    intro b245 b285 H
    refine to ?_
    refine acs [1, 4] rfl (by kernel_rfl) sl_nil ⟨?_, ?_, trivial⟩
    · refine k_call (c_sha_spread a1_b A1 c2 r85 Hc86) Tryz.call200 rfl rfl rfl [0] [] rfl rfl (g0 rfl) rfl rfl ?_
      rintro _ _ _ ⟨rfl, rfl, rfl⟩
      dsimp only [app]
      exact wa_l (by kernel_rfl) (k_wk (fro (hN4_29 b245 b285 H)) [2, 4, 6, 7, 11, 13] [0] 1 [0, 0, 0, 0] 0 rfl rfl rfl)
    · refine k_alloc rfl rfl Tryz.zeroValue224 (cs := (Arr.zero 0 64 : Arr UInt32 64).l.flatMap E32) rfl (g0 rfl) rfl rfl ?_
      intro b205
      exact wa_l (by kernel_rfl) (k_wk (fro (hN4_41 b205 b245 b285 H)) [2, 4, 5, 6, 7, 10, 13] [0] 1 [0, 0, 0, 0, 0] 0 rfl rfl rfl)
  have hN4_43 : ∀ (b245 : Nat), (jn (fun (x486 : Arr UInt32 8) => jn (fun (x489 : Arr UInt32 8) => some x489) fun J488 => sha_mix_l0 x486 J488 Fuel (0, a0_h)) fun J485 => sha_mix_l1 r85 r125 J485 Fuel (0, a0_h)) = some r → R (Sl E8 A1 c2 a1_b :: D0) (At b245 0 ((Arr.zero 0 64 : Arr UInt32 64).l.flatMap E32) :: At b3 0 (a0_h.l.flatMap E32) :: At b4 0 ((Arr.zero 0 8 : Arr UInt32 8).l.flatMap E32) :: G0) [(2, (.pointer (some ⟨b3, 0, none⟩))), (4, (.pointer (some ⟨b4, 0, none⟩))), (6, (.pointer (some ⟨b245, 0, none⟩))), (10, (.slice A1 a1_b.length c2)), (13, (.agg (a0_h.l.flatMap E32).toArray))] 7 #[true, false, false, true, false, true, false, false, false, false] := by
    intro b245 H
    refine to ?_
    refine acs [1, 4, 6] rfl (by kernel_rfl) sl_nil ⟨?_, ?_, ?_, trivial⟩
    · refine k_call (c_sha_spread a1_b A1 c2 r85 Hc86) Tryz.call200 rfl rfl rfl [0] [] rfl rfl (g0 rfl) rfl rfl ?_
      rintro _ _ _ ⟨rfl, rfl, rfl⟩
      dsimp only [app]
      exact wa_l (by kernel_rfl) (k_wk (fro (hN4_28 b245 H)) [2, 4, 6, 11, 13] [0] 1 [0, 0, 0] 0 rfl rfl rfl)
    · refine k_alloc rfl rfl Tryz.zeroValue224 (cs := (Arr.zero 0 64 : Arr UInt32 64).l.flatMap E32) rfl (g0 rfl) rfl rfl ?_
      intro b205
      exact wa_l (by kernel_rfl) (k_wk (fro (hN4_40 b205 b245 H)) [2, 4, 5, 6, 10, 13] [0] 1 [0, 0, 0, 0] 0 rfl rfl rfl)
    · refine k_alloc rfl rfl Tryz.zeroValue176 (cs := (Arr.zero 0 8 : Arr UInt32 8).l.flatMap E32) rfl (g0 rfl) rfl rfl ?_
      intro b285
      exact wa_l (by kernel_rfl) (k_wk (fro (hN4_44 b245 b285 H)) [2, 4, 6, 7, 10, 13] [0] 1 [1, 0, 0, 0] 0 rfl rfl rfl)
  have hN4_45 : ∀ (b285 : Nat), (jn (fun (x486 : Arr UInt32 8) => jn (fun (x489 : Arr UInt32 8) => some x489) fun J488 => sha_mix_l0 x486 J488 Fuel (0, a0_h)) fun J485 => sha_mix_l1 r85 r125 J485 Fuel (0, a0_h)) = some r → R (Sl E8 A1 c2 a1_b :: D0) (At b285 0 ((Arr.zero 0 8 : Arr UInt32 8).l.flatMap E32) :: At b3 0 (a0_h.l.flatMap E32) :: At b4 0 ((Arr.zero 0 8 : Arr UInt32 8).l.flatMap E32) :: G0) [(2, (.pointer (some ⟨b3, 0, none⟩))), (4, (.pointer (some ⟨b4, 0, none⟩))), (7, (.pointer (some ⟨b285, 0, none⟩))), (10, (.slice A1 a1_b.length c2)), (13, (.agg (a0_h.l.flatMap E32).toArray))] 7 #[true, false, false, true, false, false, true, false, false, false] := by
    intro b285 H
    refine to ?_
    refine acs [1, 4, 5] rfl (by kernel_rfl) sl_nil ⟨?_, ?_, ?_, trivial⟩
    · refine k_call (c_sha_spread a1_b A1 c2 r85 Hc86) Tryz.call200 rfl rfl rfl [0] [] rfl rfl (g0 rfl) rfl rfl ?_
      rintro _ _ _ ⟨rfl, rfl, rfl⟩
      dsimp only [app]
      exact wa_l (by kernel_rfl) (k_wk (fro (hN4_30 b285 H)) [2, 4, 7, 11, 13] [0] 1 [0, 0, 0] 0 rfl rfl rfl)
    · refine k_alloc rfl rfl Tryz.zeroValue224 (cs := (Arr.zero 0 64 : Arr UInt32 64).l.flatMap E32) rfl (g0 rfl) rfl rfl ?_
      intro b205
      exact wa_l (by kernel_rfl) (k_wk (fro (hN4_42 b205 b285 H)) [2, 4, 5, 7, 10, 13] [0] 1 [0, 0, 0, 0] 0 rfl rfl rfl)
    · refine k_alloc rfl rfl Tryz.zeroValue224 (cs := (Arr.zero 0 64 : Arr UInt32 64).l.flatMap E32) rfl (g0 rfl) rfl rfl ?_
      intro b245
      exact wa_l (by kernel_rfl) (k_wk (fro (hN4_44 b245 b285 H)) [2, 4, 6, 7, 10, 13] [0] 1 [0, 0, 0, 0] 0 rfl rfl rfl)
  have hN4_38 : (jn (fun (x486 : Arr UInt32 8) => jn (fun (x489 : Arr UInt32 8) => some x489) fun J488 => sha_mix_l0 x486 J488 Fuel (0, a0_h)) fun J485 => sha_mix_l1 r85 r125 J485 Fuel (0, a0_h)) = some r → R (Sl E8 A1 c2 a1_b :: D0) (At b3 0 (a0_h.l.flatMap E32) :: At b4 0 ((Arr.zero 0 8 : Arr UInt32 8).l.flatMap E32) :: G0) [(2, (.pointer (some ⟨b3, 0, none⟩))), (4, (.pointer (some ⟨b4, 0, none⟩))), (10, (.slice A1 a1_b.length c2)), (13, (.agg (a0_h.l.flatMap E32).toArray))] 8 #[true, false, false, true, false, false, false, false, false, false] := by
    intro H
    refine to ?_
    refine acs [1, 4, 5, 6] rfl (by kernel_rfl) sl_nil ⟨?_, ?_, ?_, ?_, trivial⟩
    · refine k_call (c_sha_spread a1_b A1 c2 r85 Hc86) Tryz.call200 rfl rfl rfl [0] [] rfl rfl (g0 rfl) rfl rfl ?_
      rintro _ _ _ ⟨rfl, rfl, rfl⟩
      dsimp only [app]
      exact wa_l (by kernel_rfl) (k_wk (fro (hN4_23 H)) [2, 4, 11, 13] [0] 1 [0, 0] 0 rfl rfl rfl)
    · refine k_alloc rfl rfl Tryz.zeroValue224 (cs := (Arr.zero 0 64 : Arr UInt32 64).l.flatMap E32) rfl (g0 rfl) rfl rfl ?_
      intro b205
      exact wa_l (by kernel_rfl) (k_wk (fro (hN4_39 b205 H)) [2, 4, 5, 10, 13] [0] 1 [0, 0, 0] 0 rfl rfl rfl)
    · refine k_alloc rfl rfl Tryz.zeroValue224 (cs := (Arr.zero 0 64 : Arr UInt32 64).l.flatMap E32) rfl (g0 rfl) rfl rfl ?_
      intro b245
      exact wa_l (by kernel_rfl) (k_wk (fro (hN4_43 b245 H)) [2, 4, 6, 10, 13] [0] 1 [0, 0, 0] 0 rfl rfl rfl)
    · refine k_alloc rfl rfl Tryz.zeroValue176 (cs := (Arr.zero 0 8 : Arr UInt32 8).l.flatMap E32) rfl (g0 rfl) rfl rfl ?_
      intro b285
      exact wa_l (by kernel_rfl) (k_wk (fro (hN4_45 b285 H)) [2, 4, 7, 10, 13] [0] 1 [0, 0, 0] 0 rfl rfl rfl)
  have hN4_48 : ∀ (b205 : Nat), ∀ (b245 : Nat), ∀ (b285 : Nat), (jn (fun (x486 : Arr UInt32 8) => jn (fun (x489 : Arr UInt32 8) => some x489) fun J488 => sha_mix_l0 x486 J488 Fuel (0, a0_h)) fun J485 => sha_mix_l1 r85 r125 J485 Fuel (0, a0_h)) = some r → R (Sl E8 A1 c2 a1_b :: D0) (At b205 0 ((Arr.zero 0 64 : Arr UInt32 64).l.flatMap E32) :: At b245 0 ((Arr.zero 0 64 : Arr UInt32 64).l.flatMap E32) :: At b285 0 ((Arr.zero 0 8 : Arr UInt32 8).l.flatMap E32) :: At b3 0 (a0_h.l.flatMap E32) :: At b4 0 ((Arr.zero 0 8 : Arr UInt32 8).l.flatMap E32) :: G0) [(2, (.pointer (some ⟨b3, 0, none⟩))), (4, (.pointer (some ⟨b4, 0, none⟩))), (5, (.pointer (some ⟨b205, 0, none⟩))), (6, (.pointer (some ⟨b245, 0, none⟩))), (7, (.pointer (some ⟨b285, 0, none⟩))), (10, (.slice A1 a1_b.length c2))] 6 #[true, false, false, false, true, true, true, false, false, false] := by
    intro b205 b245 b285 H
    refine to ?_
    refine acs [1, 3] rfl (by kernel_rfl) sl_nil ⟨?_, ?_, trivial⟩
    · refine k_call (c_sha_spread a1_b A1 c2 r85 Hc86) Tryz.call200 rfl rfl rfl [0] [] rfl rfl (g0 rfl) rfl rfl ?_
      rintro _ _ _ ⟨rfl, rfl, rfl⟩
      dsimp only [app]
      exact wa_l (by kernel_rfl) (k_wk (fro (hN4_33 b205 b245 b285 H)) [2, 4, 5, 6, 7, 11] [0] 1 [0, 0, 0, 0, 0] 0 rfl rfl rfl)
    · refine k_ld (hG 3 rfl) rfl (ev_ldN (j := 0) rfl rfl Tryz.isAgg176 (sz (arr_len E32_len _ rfl) Tryz.sizeOf176) (sub_all _) rfl) (g0 rfl) rfl rfl ?_
      exact wa_l (by kernel_rfl) (k_wk (fro (hN4_41 b205 b245 b285 H)) [2, 4, 5, 6, 7, 10, 13] [0] 1 [0, 0, 0, 0, 0] 0 rfl rfl rfl)
  have hN4_47 : ∀ (b205 : Nat), ∀ (b245 : Nat), (jn (fun (x486 : Arr UInt32 8) => jn (fun (x489 : Arr UInt32 8) => some x489) fun J488 => sha_mix_l0 x486 J488 Fuel (0, a0_h)) fun J485 => sha_mix_l1 r85 r125 J485 Fuel (0, a0_h)) = some r → R (Sl E8 A1 c2 a1_b :: D0) (At b205 0 ((Arr.zero 0 64 : Arr UInt32 64).l.flatMap E32) :: At b245 0 ((Arr.zero 0 64 : Arr UInt32 64).l.flatMap E32) :: At b3 0 (a0_h.l.flatMap E32) :: At b4 0 ((Arr.zero 0 8 : Arr UInt32 8).l.flatMap E32) :: G0) [(2, (.pointer (some ⟨b3, 0, none⟩))), (4, (.pointer (some ⟨b4, 0, none⟩))), (5, (.pointer (some ⟨b205, 0, none⟩))), (6, (.pointer (some ⟨b245, 0, none⟩))), (10, (.slice A1 a1_b.length c2))] 7 #[true, false, false, false, true, true, false, false, false, false] := by
    intro b205 b245 H
    refine to ?_
    refine acs [1, 3, 6] rfl (by kernel_rfl) sl_nil ⟨?_, ?_, ?_, trivial⟩
    · refine k_call (c_sha_spread a1_b A1 c2 r85 Hc86) Tryz.call200 rfl rfl rfl [0] [] rfl rfl (g0 rfl) rfl rfl ?_
      rintro _ _ _ ⟨rfl, rfl, rfl⟩
      dsimp only [app]
      exact wa_l (by kernel_rfl) (k_wk (fro (hN4_32 b205 b245 H)) [2, 4, 5, 6, 11] [0] 1 [0, 0, 0, 0] 0 rfl rfl rfl)
    · refine k_ld (hG 2 rfl) rfl (ev_ldN (j := 0) rfl rfl Tryz.isAgg176 (sz (arr_len E32_len _ rfl) Tryz.sizeOf176) (sub_all _) rfl) (g0 rfl) rfl rfl ?_
      exact wa_l (by kernel_rfl) (k_wk (fro (hN4_40 b205 b245 H)) [2, 4, 5, 6, 10, 13] [0] 1 [0, 0, 0, 0] 0 rfl rfl rfl)
    · refine k_alloc rfl rfl Tryz.zeroValue176 (cs := (Arr.zero 0 8 : Arr UInt32 8).l.flatMap E32) rfl (g0 rfl) rfl rfl ?_
      intro b285
      exact wa_l (by kernel_rfl) (k_wk (fro (hN4_48 b205 b245 b285 H)) [2, 4, 5, 6, 7, 10] [0] 1 [1, 1, 0, 0, 0] 0 rfl rfl rfl)
  have hN4_49 : ∀ (b205 : Nat), ∀ (b285 : Nat), (jn (fun (x486 : Arr UInt32 8) => jn (fun (x489 : Arr UInt32 8) => some x489) fun J488 => sha_mix_l0 x486 J488 Fuel (0, a0_h)) fun J485 => sha_mix_l1 r85 r125 J485 Fuel (0, a0_h)) = some r → R (Sl E8 A1 c2 a1_b :: D0) (At b205 0 ((Arr.zero 0 64 : Arr UInt32 64).l.flatMap E32) :: At b285 0 ((Arr.zero 0 8 : Arr UInt32 8).l.flatMap E32) :: At b3 0 (a0_h.l.flatMap E32) :: At b4 0 ((Arr.zero 0 8 : Arr UInt32 8).l.flatMap E32) :: G0) [(2, (.pointer (some ⟨b3, 0, none⟩))), (4, (.pointer (some ⟨b4, 0, none⟩))), (5, (.pointer (some ⟨b205, 0, none⟩))), (7, (.pointer (some ⟨b285, 0, none⟩))), (10, (.slice A1 a1_b.length c2))] 7 #[true, false, false, false, true, false, true, false, false, false] := by
    intro b205 b285 H
    refine to ?_
    refine acs [1, 3, 5] rfl (by kernel_rfl) sl_nil ⟨?_, ?_, ?_, trivial⟩
    · refine k_call (c_sha_spread a1_b A1 c2 r85 Hc86) Tryz.call200 rfl rfl rfl [0] [] rfl rfl (g0 rfl) rfl rfl ?_
      rintro _ _ _ ⟨rfl, rfl, rfl⟩
      dsimp only [app]
      exact wa_l (by kernel_rfl) (k_wk (fro (hN4_34 b205 b285 H)) [2, 4, 5, 7, 11] [0] 1 [0, 0, 0, 0] 0 rfl rfl rfl)
    · refine k_ld (hG 2 rfl) rfl (ev_ldN (j := 0) rfl rfl Tryz.isAgg176 (sz (arr_len E32_len _ rfl) Tryz.sizeOf176) (sub_all _) rfl) (g0 rfl) rfl rfl ?_
      exact wa_l (by kernel_rfl) (k_wk (fro (hN4_42 b205 b285 H)) [2, 4, 5, 7, 10, 13] [0] 1 [0, 0, 0, 0] 0 rfl rfl rfl)
    · refine k_alloc rfl rfl Tryz.zeroValue224 (cs := (Arr.zero 0 64 : Arr UInt32 64).l.flatMap E32) rfl (g0 rfl) rfl rfl ?_
      intro b245
      exact wa_l (by kernel_rfl) (k_wk (fro (hN4_48 b205 b245 b285 H)) [2, 4, 5, 6, 7, 10] [0] 1 [1, 0, 0, 0, 0] 0 rfl rfl rfl)
  have hN4_46 : ∀ (b205 : Nat), (jn (fun (x486 : Arr UInt32 8) => jn (fun (x489 : Arr UInt32 8) => some x489) fun J488 => sha_mix_l0 x486 J488 Fuel (0, a0_h)) fun J485 => sha_mix_l1 r85 r125 J485 Fuel (0, a0_h)) = some r → R (Sl E8 A1 c2 a1_b :: D0) (At b205 0 ((Arr.zero 0 64 : Arr UInt32 64).l.flatMap E32) :: At b3 0 (a0_h.l.flatMap E32) :: At b4 0 ((Arr.zero 0 8 : Arr UInt32 8).l.flatMap E32) :: G0) [(2, (.pointer (some ⟨b3, 0, none⟩))), (4, (.pointer (some ⟨b4, 0, none⟩))), (5, (.pointer (some ⟨b205, 0, none⟩))), (10, (.slice A1 a1_b.length c2))] 8 #[true, false, false, false, true, false, false, false, false, false] := by
    intro b205 H
    refine to ?_
    refine acs [1, 3, 5, 6] rfl (by kernel_rfl) sl_nil ⟨?_, ?_, ?_, ?_, trivial⟩
    · refine k_call (c_sha_spread a1_b A1 c2 r85 Hc86) Tryz.call200 rfl rfl rfl [0] [] rfl rfl (g0 rfl) rfl rfl ?_
      rintro _ _ _ ⟨rfl, rfl, rfl⟩
      dsimp only [app]
      exact wa_l (by kernel_rfl) (k_wk (fro (hN4_31 b205 H)) [2, 4, 5, 11] [0] 1 [0, 0, 0] 0 rfl rfl rfl)
    · refine k_ld (hG 1 rfl) rfl (ev_ldN (j := 0) rfl rfl Tryz.isAgg176 (sz (arr_len E32_len _ rfl) Tryz.sizeOf176) (sub_all _) rfl) (g0 rfl) rfl rfl ?_
      exact wa_l (by kernel_rfl) (k_wk (fro (hN4_39 b205 H)) [2, 4, 5, 10, 13] [0] 1 [0, 0, 0] 0 rfl rfl rfl)
    · refine k_alloc rfl rfl Tryz.zeroValue224 (cs := (Arr.zero 0 64 : Arr UInt32 64).l.flatMap E32) rfl (g0 rfl) rfl rfl ?_
      intro b245
      exact wa_l (by kernel_rfl) (k_wk (fro (hN4_47 b205 b245 H)) [2, 4, 5, 6, 10] [0] 1 [1, 0, 0, 0] 0 rfl rfl rfl)
    · refine k_alloc rfl rfl Tryz.zeroValue176 (cs := (Arr.zero 0 8 : Arr UInt32 8).l.flatMap E32) rfl (g0 rfl) rfl rfl ?_
      intro b285
      exact wa_l (by kernel_rfl) (k_wk (fro (hN4_49 b205 b285 H)) [2, 4, 5, 7, 10] [0] 1 [1, 0, 0, 0] 0 rfl rfl rfl)
  have hN4_51 : ∀ (b245 : Nat), ∀ (b285 : Nat), (jn (fun (x486 : Arr UInt32 8) => jn (fun (x489 : Arr UInt32 8) => some x489) fun J488 => sha_mix_l0 x486 J488 Fuel (0, a0_h)) fun J485 => sha_mix_l1 r85 r125 J485 Fuel (0, a0_h)) = some r → R (Sl E8 A1 c2 a1_b :: D0) (At b245 0 ((Arr.zero 0 64 : Arr UInt32 64).l.flatMap E32) :: At b285 0 ((Arr.zero 0 8 : Arr UInt32 8).l.flatMap E32) :: At b3 0 (a0_h.l.flatMap E32) :: At b4 0 ((Arr.zero 0 8 : Arr UInt32 8).l.flatMap E32) :: G0) [(2, (.pointer (some ⟨b3, 0, none⟩))), (4, (.pointer (some ⟨b4, 0, none⟩))), (6, (.pointer (some ⟨b245, 0, none⟩))), (7, (.pointer (some ⟨b285, 0, none⟩))), (10, (.slice A1 a1_b.length c2))] 7 #[true, false, false, false, false, true, true, false, false, false] := by
    intro b245 b285 H
    refine to ?_
    refine acs [1, 3, 4] rfl (by kernel_rfl) sl_nil ⟨?_, ?_, ?_, trivial⟩
    · refine k_call (c_sha_spread a1_b A1 c2 r85 Hc86) Tryz.call200 rfl rfl rfl [0] [] rfl rfl (g0 rfl) rfl rfl ?_
      rintro _ _ _ ⟨rfl, rfl, rfl⟩
      dsimp only [app]
      exact wa_l (by kernel_rfl) (k_wk (fro (hN4_36 b245 b285 H)) [2, 4, 6, 7, 11] [0] 1 [0, 0, 0, 0] 0 rfl rfl rfl)
    · refine k_ld (hG 2 rfl) rfl (ev_ldN (j := 0) rfl rfl Tryz.isAgg176 (sz (arr_len E32_len _ rfl) Tryz.sizeOf176) (sub_all _) rfl) (g0 rfl) rfl rfl ?_
      exact wa_l (by kernel_rfl) (k_wk (fro (hN4_44 b245 b285 H)) [2, 4, 6, 7, 10, 13] [0] 1 [0, 0, 0, 0] 0 rfl rfl rfl)
    · refine k_alloc rfl rfl Tryz.zeroValue224 (cs := (Arr.zero 0 64 : Arr UInt32 64).l.flatMap E32) rfl (g0 rfl) rfl rfl ?_
      intro b205
      exact wa_l (by kernel_rfl) (k_wk (fro (hN4_48 b205 b245 b285 H)) [2, 4, 5, 6, 7, 10] [0] 1 [0, 0, 0, 0, 0] 0 rfl rfl rfl)
  have hN4_50 : ∀ (b245 : Nat), (jn (fun (x486 : Arr UInt32 8) => jn (fun (x489 : Arr UInt32 8) => some x489) fun J488 => sha_mix_l0 x486 J488 Fuel (0, a0_h)) fun J485 => sha_mix_l1 r85 r125 J485 Fuel (0, a0_h)) = some r → R (Sl E8 A1 c2 a1_b :: D0) (At b245 0 ((Arr.zero 0 64 : Arr UInt32 64).l.flatMap E32) :: At b3 0 (a0_h.l.flatMap E32) :: At b4 0 ((Arr.zero 0 8 : Arr UInt32 8).l.flatMap E32) :: G0) [(2, (.pointer (some ⟨b3, 0, none⟩))), (4, (.pointer (some ⟨b4, 0, none⟩))), (6, (.pointer (some ⟨b245, 0, none⟩))), (10, (.slice A1 a1_b.length c2))] 8 #[true, false, false, false, false, true, false, false, false, false] := by
    intro b245 H
    refine to ?_
    refine acs [1, 3, 4, 6] rfl (by kernel_rfl) sl_nil ⟨?_, ?_, ?_, ?_, trivial⟩
    · refine k_call (c_sha_spread a1_b A1 c2 r85 Hc86) Tryz.call200 rfl rfl rfl [0] [] rfl rfl (g0 rfl) rfl rfl ?_
      rintro _ _ _ ⟨rfl, rfl, rfl⟩
      dsimp only [app]
      exact wa_l (by kernel_rfl) (k_wk (fro (hN4_35 b245 H)) [2, 4, 6, 11] [0] 1 [0, 0, 0] 0 rfl rfl rfl)
    · refine k_ld (hG 1 rfl) rfl (ev_ldN (j := 0) rfl rfl Tryz.isAgg176 (sz (arr_len E32_len _ rfl) Tryz.sizeOf176) (sub_all _) rfl) (g0 rfl) rfl rfl ?_
      exact wa_l (by kernel_rfl) (k_wk (fro (hN4_43 b245 H)) [2, 4, 6, 10, 13] [0] 1 [0, 0, 0] 0 rfl rfl rfl)
    · refine k_alloc rfl rfl Tryz.zeroValue224 (cs := (Arr.zero 0 64 : Arr UInt32 64).l.flatMap E32) rfl (g0 rfl) rfl rfl ?_
      intro b205
      exact wa_l (by kernel_rfl) (k_wk (fro (hN4_47 b205 b245 H)) [2, 4, 5, 6, 10] [0] 1 [0, 0, 0, 0] 0 rfl rfl rfl)
    · refine k_alloc rfl rfl Tryz.zeroValue176 (cs := (Arr.zero 0 8 : Arr UInt32 8).l.flatMap E32) rfl (g0 rfl) rfl rfl ?_
      intro b285
      exact wa_l (by kernel_rfl) (k_wk (fro (hN4_51 b245 b285 H)) [2, 4, 6, 7, 10] [0] 1 [1, 0, 0, 0] 0 rfl rfl rfl)
  have hN4_52 : ∀ (b285 : Nat), (jn (fun (x486 : Arr UInt32 8) => jn (fun (x489 : Arr UInt32 8) => some x489) fun J488 => sha_mix_l0 x486 J488 Fuel (0, a0_h)) fun J485 => sha_mix_l1 r85 r125 J485 Fuel (0, a0_h)) = some r → R (Sl E8 A1 c2 a1_b :: D0) (At b285 0 ((Arr.zero 0 8 : Arr UInt32 8).l.flatMap E32) :: At b3 0 (a0_h.l.flatMap E32) :: At b4 0 ((Arr.zero 0 8 : Arr UInt32 8).l.flatMap E32) :: G0) [(2, (.pointer (some ⟨b3, 0, none⟩))), (4, (.pointer (some ⟨b4, 0, none⟩))), (7, (.pointer (some ⟨b285, 0, none⟩))), (10, (.slice A1 a1_b.length c2))] 8 #[true, false, false, false, false, false, true, false, false, false] := by
    intro b285 H
    refine to ?_
    refine acs [1, 3, 4, 5] rfl (by kernel_rfl) sl_nil ⟨?_, ?_, ?_, ?_, trivial⟩
    · refine k_call (c_sha_spread a1_b A1 c2 r85 Hc86) Tryz.call200 rfl rfl rfl [0] [] rfl rfl (g0 rfl) rfl rfl ?_
      rintro _ _ _ ⟨rfl, rfl, rfl⟩
      dsimp only [app]
      exact wa_l (by kernel_rfl) (k_wk (fro (hN4_37 b285 H)) [2, 4, 7, 11] [0] 1 [0, 0, 0] 0 rfl rfl rfl)
    · refine k_ld (hG 1 rfl) rfl (ev_ldN (j := 0) rfl rfl Tryz.isAgg176 (sz (arr_len E32_len _ rfl) Tryz.sizeOf176) (sub_all _) rfl) (g0 rfl) rfl rfl ?_
      exact wa_l (by kernel_rfl) (k_wk (fro (hN4_45 b285 H)) [2, 4, 7, 10, 13] [0] 1 [0, 0, 0] 0 rfl rfl rfl)
    · refine k_alloc rfl rfl Tryz.zeroValue224 (cs := (Arr.zero 0 64 : Arr UInt32 64).l.flatMap E32) rfl (g0 rfl) rfl rfl ?_
      intro b205
      exact wa_l (by kernel_rfl) (k_wk (fro (hN4_49 b205 b285 H)) [2, 4, 5, 7, 10] [0] 1 [0, 0, 0, 0] 0 rfl rfl rfl)
    · refine k_alloc rfl rfl Tryz.zeroValue224 (cs := (Arr.zero 0 64 : Arr UInt32 64).l.flatMap E32) rfl (g0 rfl) rfl rfl ?_
      intro b245
      exact wa_l (by kernel_rfl) (k_wk (fro (hN4_51 b245 b285 H)) [2, 4, 6, 7, 10] [0] 1 [0, 0, 0, 0] 0 rfl rfl rfl)
  have hN4_0 : (jn (fun (x486 : Arr UInt32 8) => jn (fun (x489 : Arr UInt32 8) => some x489) fun J488 => sha_mix_l0 x486 J488 Fuel (0, a0_h)) fun J485 => sha_mix_l1 r85 r125 J485 Fuel (0, a0_h)) = some r → R (Sl E8 A1 c2 a1_b :: D0) (At b3 0 (a0_h.l.flatMap E32) :: At b4 0 ((Arr.zero 0 8 : Arr UInt32 8).l.flatMap E32) :: G0) [(2, (.pointer (some ⟨b3, 0, none⟩))), (4, (.pointer (some ⟨b4, 0, none⟩))), (10, (.slice A1 a1_b.length c2))] 9 #[true, false, false, false, false, false, false, false, false, false] := by
    intro H
    refine to ?_
    refine acs [1, 3, 4, 5, 6] rfl (by kernel_rfl) sl_nil ⟨?_, ?_, ?_, ?_, ?_, trivial⟩
    · refine k_call (c_sha_spread a1_b A1 c2 r85 Hc86) Tryz.call200 rfl rfl rfl [0] [] rfl rfl (g0 rfl) rfl rfl ?_
      rintro _ _ _ ⟨rfl, rfl, rfl⟩
      dsimp only [app]
      exact wa_l (by kernel_rfl) (k_wk (fro (hN4_1 H)) [2, 4, 11] [0] 1 [0, 0] 0 rfl rfl rfl)
    · refine k_ld (hG 0 rfl) rfl (ev_ldN (j := 0) rfl rfl Tryz.isAgg176 (sz (arr_len E32_len _ rfl) Tryz.sizeOf176) (sub_all _) rfl) (g0 rfl) rfl rfl ?_
      exact wa_l (by kernel_rfl) (k_wk (fro (hN4_38 H)) [2, 4, 10, 13] [0] 1 [0, 0] 0 rfl rfl rfl)
    · refine k_alloc rfl rfl Tryz.zeroValue224 (cs := (Arr.zero 0 64 : Arr UInt32 64).l.flatMap E32) rfl (g0 rfl) rfl rfl ?_
      intro b205
      exact wa_l (by kernel_rfl) (k_wk (fro (hN4_46 b205 H)) [2, 4, 5, 10] [0] 1 [0, 0, 0] 0 rfl rfl rfl)
    · refine k_alloc rfl rfl Tryz.zeroValue224 (cs := (Arr.zero 0 64 : Arr UInt32 64).l.flatMap E32) rfl (g0 rfl) rfl rfl ?_
      intro b245
      exact wa_l (by kernel_rfl) (k_wk (fro (hN4_50 b245 H)) [2, 4, 6, 10] [0] 1 [0, 0, 0] 0 rfl rfl rfl)
    · refine k_alloc rfl rfl Tryz.zeroValue176 (cs := (Arr.zero 0 8 : Arr UInt32 8).l.flatMap E32) rfl (g0 rfl) rfl rfl ?_
      intro b285
      exact wa_l (by kernel_rfl) (k_wk (fro (hN4_52 b285 H)) [2, 4, 7, 10] [0] 1 [0, 0, 0] 0 rfl rfl rfl)
  refine a_run ft [0] rfl (fun _ _ _ _ _ h => h) (by kernel_rfl) rfl ?_
  exact wa_l (by kernel_rfl) (k_wk (fro (hN4_0 H)) [2, 4, 10] [0] 1 [1, 0] 0 rfl rfl rfl)

end Go.Proofs.YtpdoioeckiiegaaGreatDoor.Wl
