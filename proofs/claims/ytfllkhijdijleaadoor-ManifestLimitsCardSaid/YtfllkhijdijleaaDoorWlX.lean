import Derived.Test.YtfllkhijdijleaaDoorWlX0
set_option linter.unusedSimpArgs false
set_option linter.unusedVariables false
set_option maxRecDepth 10000
namespace Go.Proofs.YtfllkhijdijleaaDoor.Wl
open Go.RowKit Go.Proofs
def sha_mix_l0 (x486 : Arr UInt32 8) (J488 : (Arr UInt32 8) → Option (Arr UInt32 8)) : Nat → (Int × Arr UInt32 8) → Option (Arr UInt32 8)
  | 0, _ => none
  | k491 + 1, s491 =>
    bif (decide (s491.1 < 8)) then (
    chk (0 ≤ s491.1 ∧ s491.1 < 8) <|
    chk (0 ≤ s491.1 ∧ s491.1 < 8) <|
    chk (0 ≤ s491.1 ∧ s491.1 < 8) <|
    sha_mix_l0 x486 J488 k491 ((wrap64 (s491.1 + 1)), (Arr.set s491.2 s491.1 ((at' 0 s491.2.l s491.1) + (at' 0 x486.l s491.1))))) else (
    J488 s491.2)

def sha_mix_l1 (r85 : (Arr UInt32 64)) (r125 : (Arr UInt32 64)) (J485 : (Arr UInt32 8) → Option (Arr UInt32 8)) : Nat → (Int × Arr UInt32 8) → Option (Arr UInt32 8)
  | 0, _ => none
  | k496 + 1, s496 =>
    bif (decide (s496.1 < 64)) then (
    chk (0 ≤ s496.1 ∧ s496.1 < 64) <|
    chk (0 ≤ s496.1 ∧ s496.1 < 64) <|
    (sha_round s496.2 ((at' 0 r125.l s496.1) + (at' 0 r85.l s496.1))).bind fun r500 =>
    sha_mix_l1 r85 r125 J485 k496 ((wrap64 (s496.1 + 1)), r500)) else (
    J485 s496.2)

def sha_mix (a0_h : Arr UInt32 8) (a1_b : List UInt8) : Option (Arr UInt32 8) :=
(sha_spread a1_b).bind fun r85 =>
(sha_constants ).bind fun r125 =>
jn (fun (x486 : Arr UInt32 8) =>
jn (fun (x489 : Arr UInt32 8) =>
some x489) fun J488 =>
sha_mix_l0 x486 J488 Fuel (0, a0_h)) fun J485 =>
sha_mix_l1 r85 r125 J485 Fuel (0, a0_h)

theorem c_sha_mix (a0_h : Arr UInt32 8) (a1_b : List UInt8) (A1 : Option Addr) (c2 : Nat) (r : (Arr UInt32 8)) (H : sha_mix a0_h a1_b = some r) : Fn Tryd.prog 83 [(.agg (a0_h.l.flatMap E32).toArray), (.slice A1 a1_b.length c2)] [Sl E8 A1 c2 a1_b] [] (fun v D' G' => v = (.agg (r.l.flatMap E32).toArray) ∧ D' = [] ∧ G' = []) := by
  unfold sha_mix at H
  refine fn_of Tryd.func83 rfl Tryd.ntmps83 rfl ?_
  intro w0 D0 G0
  dsimp only [List.cons_append, List.nil_append, initEnv, Nat.zero_add, Nat.reduceAdd]
  refine s_seq ?_
  refine s_reg [0, 1] rfl ?_
  refine oc (k_box rfl rfl rfl (cs := a0_h.l.flatMap E32) rfl (g0 rfl) rfl rfl ?_)
  intro b3
  refine oc (k_alloc rfl rfl Tryd.zeroValue144 (cs := (Arr.zero 0 8 : Arr UInt32 8).l.flatMap E32) rfl (g0 rfl) rfl rfl ?_)
  intro b4
  refine o_nil ?_
  refine q_then ?_
  refine s_seq ?_
  refine s_draw mixed [] ?_
  refine wa_loc fun R to fro => to ?_
  have hN4_9 : ∀ (b205 : Nat), ∀ (b245 : Nat), ∀ (b285 : Nat), ∀ (r125 : (Arr UInt32 64)), ∀ (r85 : (Arr UInt32 64)), (jn (fun (x486 : Arr UInt32 8) => jn (fun (x489 : Arr UInt32 8) => some x489) fun J488 => sha_mix_l0 x486 J488 Fuel (0, a0_h)) fun J485 => sha_mix_l1 r85 r125 J485 Fuel (0, a0_h)) = some r → R (Sl E8 A1 c2 a1_b :: D0) (At b205 0 (r85.l.flatMap E32) :: At b245 0 (r125.l.flatMap E32) :: At b285 0 (a0_h.l.flatMap E32) :: At b3 0 (a0_h.l.flatMap E32) :: At b4 0 ((Arr.zero 0 8 : Arr UInt32 8).l.flatMap E32) :: G0) [(0, (.agg (a0_h.l.flatMap E32).toArray)), (1, (.slice A1 a1_b.length c2)), (2, (.pointer (some ⟨b3, 0, none⟩))), (4, (.pointer (some ⟨b4, 0, none⟩))), (5, (.pointer (some ⟨b205, 0, none⟩))), (6, (.pointer (some ⟨b245, 0, none⟩))), (7, (.pointer (some ⟨b285, 0, none⟩))), (10, (.slice A1 a1_b.length c2)), (11, (.agg (r85.l.flatMap E32).toArray)), (12, (.agg (r125.l.flatMap E32).toArray)), (13, (.agg (a0_h.l.flatMap E32).toArray))] 0 #[true, true, true, true, true, true, true, true, true, true] := by
    intro b205 b245 b285 r125 r85 H
    refine to ?_
    refine a_done (by kernel_rfl) sl_nil ?_
    refine q_then ?_
    refine s_seq ?_
    refine s_seq ?_
    refine s_reg [0] rfl ?_
    refine o_pu rfl (ev_move rfl rfl) (g0 rfl) rfl rfl ?_
    refine o_nil ?_
    refine q_then ?_
    refine q_join (fun (x486 : Arr UInt32 8) (y487 : Unit) => ⟨Sl E8 A1 c2 a1_b :: D0, At b205 0 (r85.l.flatMap E32) :: At b245 0 (r125.l.flatMap E32) :: At b285 0 (x486.l.flatMap E32) :: At b3 0 (a0_h.l.flatMap E32) :: At b4 0 ((Arr.zero 0 8 : Arr UInt32 8).l.flatMap E32) :: G0, [(2, (.pointer (some ⟨b3, 0, none⟩))), (4, (.pointer (some ⟨b4, 0, none⟩))), (7, (.pointer (some ⟨b285, 0, none⟩)))]⟩) H ?_ ?_
    · intro x486 y487 H
      dsimp only
      refine q_then ?_
      refine s_seq ?_
      refine s_seq ?_
      refine s_reg [0] rfl ?_
      refine o_pu rfl (ev_move rfl rfl) (g0 rfl) rfl rfl ?_
      refine o_nil ?_
      refine q_then ?_
      refine q_join (fun (x489 : Arr UInt32 8) (y490 : Unit) => ⟨Sl E8 A1 c2 a1_b :: D0, At b205 0 (r85.l.flatMap E32) :: At b245 0 (r125.l.flatMap E32) :: At b285 0 (x486.l.flatMap E32) :: At b3 0 (x489.l.flatMap E32) :: At b4 0 ((Arr.zero 0 8 : Arr UInt32 8).l.flatMap E32) :: G0, [(2, (.pointer (some ⟨b3, 0, none⟩))), (4, (.pointer (some ⟨b4, 0, none⟩)))]⟩) H ?_ ?_
      · intro x489 y490 H
        dsimp only
        refine q_then ?_
        refine s_seq ?_
        refine s_reg [0, 1] rfl ?_
        refine o_ld (hG 3 rfl) rfl (ev_ldN (j := 0) rfl rfl Tryd.isAgg144 (sz (arr_len E32_len _ rfl) Tryd.sizeOf144) (sub_all _) rfl) (g0 rfl) rfl rfl ?_
        refine oc (k_st (j := 0) rfl rfl rfl rfl (vs := x489.l.flatMap E32) rfl (sz (arr_len E32_len _ rfl) Tryd.sizeOf144) (arr_sc E32_one _) 4 rfl (spl_all ((arr_len E32_len _ rfl).trans (arr_len E32_len _ rfl).symm)) rfl (g0 rfl) rfl ?_)
        refine o_nil ?_
        refine q_then ?_
        refine s_ret ?_
        cases H
        exact q_end (rs_1 Tryd.results83 (rv_cell (j := 0) rfl (hG 4 rfl) Tryd.isAgg144 (sz (arr_len E32_len _ rfl) Tryd.sizeOf144) (sub_all _) rfl)) ⟨rfl, rfl, rfl⟩ [] rfl 1 rfl [] rfl 5 rfl
      · intro J488 H
        refine s_block ?_
        refine s_loop (k_wk (loop_ind (fun (s491 : Int × Arr UInt32 8) (y491 : Unit) => ⟨Sl E8 A1 c2 a1_b :: D0, At b205 0 (r85.l.flatMap E32) :: At b245 0 (r125.l.flatMap E32) :: At b285 0 (x486.l.flatMap E32) :: At b3 0 (s491.2.l.flatMap E32) :: At b4 0 ((Arr.zero 0 8 : Arr UInt32 8).l.flatMap E32) :: G0, [(2, (.pointer (some ⟨b3, 0, none⟩))), (4, (.pointer (some ⟨b4, 0, none⟩))), (7, (.pointer (some ⟨b285, 0, none⟩))), (27, (vi s491.1))]⟩) (sha_mix_l0 x486 _) _ (fun _ => rfl) ?_ Fuel (0, a0_h) () H) [2, 4, 7, 27] [0] 1 [0, 0, 0, 0, 0] 0 rfl rfl rfl)
        intro k491 s491 y491 ih H
        dsimp only
        rw [sha_mix_l0] at H
        refine s_seq ?_
        refine s_reg [0] rfl ?_
        refine o_pu rfl (ev_bin rfl rfl rfl rfl (lss_i _ 8)) (g0 rfl) rfl rfl ?_
        refine o_nil ?_
        refine q_then ?_
        refine s_seq ?_
        refine s_cond rfl ?_ ?_
        · intro hb492
          have H := cnd_t H hb492
          refine s_skip ?_
          refine q_then ?_
          refine s_seq ?_
          refine s_block ?_
          refine s_seq ?_
          refine s_reg [0, 1] rfl ?_
          refine o_pu rfl (ev_move rfl rfl) (g0 rfl) rfl rfl ?_
          refine o_pu rfl (ev_assign rfl rfl) (g0 rfl) rfl rfl ?_
          refine o_nil ?_
          refine q_then ?_
          refine s_draw mixed [(2, [8], Has b3 0 (s491.2.l.flatMap E32)), (5, [8], Has b285 0 (x486.l.flatMap E32))] ?_
          refine a_pu 0 rfl (ev_move rfl rfl) (by rfl) (by kernel_rfl) (by kernel_rfl) (by kernel_rfl) (fun _ _ _ h => h) (g0 rfl) rfl rfl ?_
          obtain ⟨hk493, H⟩ := chk_some H
          refine a_pu 1 rfl (ev_idx_array rfl rfl rfl Tryd.runUnderlying144 Tryd.sizeOf143 hk493 rfl) (by rfl) (by kernel_rfl) (by kernel_rfl) (by kernel_rfl) (fun _ _ _ h => h) (g0 rfl) rfl rfl ?_
          refine a_ld 2 0 rfl rfl (ev_ld1 rfl rfl Tryd.isAgg143 (sub_arr E32_len 0 _ (k := s491.1) hk493 rfl) (by omega)) (by kernel_rfl) (by rfl) (by kernel_rfl) (by kernel_rfl) (by kernel_rfl) (by kernel_rfl) (fun _ _ _ h => h) (g0 rfl) rfl rfl ?_
          refine a_pu 3 rfl (ev_move rfl rfl) (by rfl) (by kernel_rfl) (by kernel_rfl) (by kernel_rfl) (fun _ _ _ h => h) (g0 rfl) rfl rfl ?_
          obtain ⟨hk494, H⟩ := chk_some H
          refine a_pu 4 rfl (ev_idx_array rfl rfl rfl Tryd.runUnderlying144 Tryd.sizeOf143 hk494 rfl) (by rfl) (by kernel_rfl) (by kernel_rfl) (by kernel_rfl) (fun _ _ _ h => h) (g0 rfl) rfl rfl ?_
          refine a_ld 5 1 rfl rfl (ev_ld1 rfl rfl Tryd.isAgg143 (sub_arr E32_len 0 _ (k := s491.1) hk494 rfl) (by omega)) (by kernel_rfl) (by rfl) (by kernel_rfl) (by kernel_rfl) (by kernel_rfl) (by kernel_rfl) (fun _ _ _ h => h) (g0 rfl) rfl rfl ?_
          refine a_pu 6 rfl (ev_bin rfl rfl rfl rfl (add_32 _ _)) (by rfl) (by kernel_rfl) (by kernel_rfl) (by kernel_rfl) (fun _ _ _ h => h) (g0 rfl) rfl rfl ?_
          obtain ⟨hk495, H⟩ := chk_some H
          refine a_pu 7 rfl (ev_idx_array rfl rfl rfl Tryd.runUnderlying144 Tryd.sizeOf143 hk495 rfl) (by rfl) (by kernel_rfl) (by kernel_rfl) (by kernel_rfl) (fun _ _ _ h => h) (g0 rfl) rfl rfl ?_
          refine ac 8 (by kernel_rfl) (sl_cons (hG 3 rfl) (sl_cons (hG 2 rfl) sl_nil)) (k_st rfl rfl rfl rfl (vs := [v32 ((at' 0 s491.2.l s491.1) + (at' 0 x486.l s491.1))]) rfl (sz rfl Tryd.sizeOf143) rfl 3 rfl (spl_arr E32_len _ (k := s491.1) _ hk495 rfl) (by omega) (g0 rfl) rfl ?_)
          refine a_done (by kernel_rfl) (sl_end (by kernel_rfl) (sl_end (by kernel_rfl) sl_nil)) ?_
          refine q_block ?_
          refine q_then ?_
          refine s_reg [0, 1] rfl ?_
          refine o_pu rfl (ev_bin rfl rfl rfl rfl (add_i _ 1)) (g0 rfl) rfl rfl ?_
          refine o_pu rfl (ev_move rfl rfl) (g0 rfl) rfl rfl ?_
          refine o_nil ?_
          refine q_loop ?_
          exact k_wk (ih ((wrap64 (s491.1 + 1)), (Arr.set s491.2 s491.1 ((at' 0 s491.2.l s491.1) + (at' 0 x486.l s491.1)))) () H) [2, 4, 7, 27] [0] 1 [0, 0, 0, 0, 0] 0 rfl rfl rfl
        · intro hb492
          have H := cnd_f H hb492
          refine s_exit ?_
          refine q_then_x ?_
          refine q_then_x ?_
          refine q_block_x ?_
          exact k_wk (J488 s491.2 () H) [2, 4] [0] 1 [0, 0, 0, 0, 0] 0 rfl rfl rfl
    · intro J485 H
      refine s_block ?_
      refine s_loop (k_wk (loop_ind (fun (s496 : Int × Arr UInt32 8) (y496 : Unit) => ⟨Sl E8 A1 c2 a1_b :: D0, At b205 0 (r85.l.flatMap E32) :: At b245 0 (r125.l.flatMap E32) :: At b285 0 (s496.2.l.flatMap E32) :: At b3 0 (a0_h.l.flatMap E32) :: At b4 0 ((Arr.zero 0 8 : Arr UInt32 8).l.flatMap E32) :: G0, [(2, (.pointer (some ⟨b3, 0, none⟩))), (4, (.pointer (some ⟨b4, 0, none⟩))), (5, (.pointer (some ⟨b205, 0, none⟩))), (6, (.pointer (some ⟨b245, 0, none⟩))), (7, (.pointer (some ⟨b285, 0, none⟩))), (14, (vi s496.1))]⟩) (sha_mix_l1 r85 r125 _) _ (fun _ => rfl) ?_ Fuel (0, a0_h) () H) [2, 4, 5, 6, 7, 14] [0] 1 [0, 0, 0, 0, 0] 0 rfl rfl rfl)
      intro k496 s496 y496 ih H
      dsimp only
      rw [sha_mix_l1] at H
      refine s_seq ?_
      refine s_reg [0] rfl ?_
      refine o_pu rfl (ev_bin rfl rfl rfl rfl (lss_i _ 64)) (g0 rfl) rfl rfl ?_
      refine o_nil ?_
      refine q_then ?_
      refine s_seq ?_
      refine s_cond rfl ?_ ?_
      · intro hb497
        have H := cnd_t H hb497
        refine s_skip ?_
        refine q_then ?_
        refine s_seq ?_
        refine s_block ?_
        refine s_seq ?_
        refine s_reg [0, 1] rfl ?_
        refine o_pu rfl (ev_move rfl rfl) (g0 rfl) rfl rfl ?_
        refine o_pu rfl (ev_assign rfl rfl) (g0 rfl) rfl rfl ?_
        refine o_nil ?_
        refine q_then ?_
        refine s_draw mixed [(0, [8, 9], Has b285 0 (s496.2.l.flatMap E32)), (3, [9], Has b245 0 (r125.l.flatMap E32)), (6, [9], Has b205 0 (r85.l.flatMap E32))] ?_
        refine a_ld 0 0 rfl rfl (ev_ldN (j := 0) rfl rfl Tryd.isAgg144 (sz (arr_len E32_len _ rfl) Tryd.sizeOf144) (sub_all _) rfl) (by kernel_rfl) (by rfl) (by kernel_rfl) (by kernel_rfl) (by kernel_rfl) (by kernel_rfl) (fun _ _ _ h => h) (g0 rfl) rfl rfl ?_
        refine a_pu 1 rfl (ev_move rfl rfl) (by rfl) (by kernel_rfl) (by kernel_rfl) (by kernel_rfl) (fun _ _ _ h => h) (g0 rfl) rfl rfl ?_
        obtain ⟨hk498, H⟩ := chk_some H
        refine a_pu 2 rfl (ev_idx_array rfl rfl rfl Tryd.runUnderlying172 Tryd.sizeOf143 hk498 rfl) (by rfl) (by kernel_rfl) (by kernel_rfl) (by kernel_rfl) (fun _ _ _ h => h) (g0 rfl) rfl rfl ?_
        refine a_ld 3 1 rfl rfl (ev_ld1 rfl rfl Tryd.isAgg143 (sub_arr E32_len 0 _ (k := s496.1) hk498 rfl) (by omega)) (by kernel_rfl) (by rfl) (by kernel_rfl) (by kernel_rfl) (by kernel_rfl) (by kernel_rfl) (fun _ _ _ h => h) (g0 rfl) rfl rfl ?_
        refine a_pu 4 rfl (ev_move rfl rfl) (by rfl) (by kernel_rfl) (by kernel_rfl) (by kernel_rfl) (fun _ _ _ h => h) (g0 rfl) rfl rfl ?_
        obtain ⟨hk499, H⟩ := chk_some H
        refine a_pu 5 rfl (ev_idx_array rfl rfl rfl Tryd.runUnderlying172 Tryd.sizeOf143 hk499 rfl) (by rfl) (by kernel_rfl) (by kernel_rfl) (by kernel_rfl) (fun _ _ _ h => h) (g0 rfl) rfl rfl ?_
        refine a_ld 6 2 rfl rfl (ev_ld1 rfl rfl Tryd.isAgg143 (sub_arr E32_len 0 _ (k := s496.1) hk499 rfl) (by omega)) (by kernel_rfl) (by rfl) (by kernel_rfl) (by kernel_rfl) (by kernel_rfl) (by kernel_rfl) (fun _ _ _ h => h) (g0 rfl) rfl rfl ?_
        refine a_pu 7 rfl (ev_bin rfl rfl rfl rfl (add_32 _ _)) (by rfl) (by kernel_rfl) (by kernel_rfl) (by kernel_rfl) (fun _ _ _ h => h) (g0 rfl) rfl rfl ?_
        obtain ⟨r500, Hc501, H⟩ := bind_some' H
        refine ac 8 (by kernel_rfl) (sl_cons (hG 2 rfl) (sl_cons (hG 1 rfl) (sl_cons (hG 0 rfl) sl_nil))) (k_call (c_sha_round s496.2 ((at' 0 r125.l s496.1) + (at' 0 r85.l s496.1)) r500 Hc501) Tryd.call113 rfl rfl rfl [] [] rfl rfl (g0 rfl) rfl rfl ?_)
        rintro _ _ _ ⟨rfl, rfl, rfl⟩
        dsimp only [List.cons_append, List.nil_append]
        refine ac 9 (by kernel_rfl) (sl_end (by kernel_rfl) (sl_cons (hG 1 rfl) (sl_cons (hG 0 rfl) sl_nil))) (k_st (j := 0) rfl rfl rfl rfl (vs := r500.l.flatMap E32) rfl (sz (arr_len E32_len _ rfl) Tryd.sizeOf144) (arr_sc E32_one _) 2 rfl (spl_all ((arr_len E32_len _ rfl).trans (arr_len E32_len _ rfl).symm)) rfl (g0 rfl) rfl ?_)
        refine a_done (by kernel_rfl) (sl_end (by kernel_rfl) (sl_end (by kernel_rfl) (sl_end (by kernel_rfl) sl_nil))) ?_
        refine q_block ?_
        refine q_then ?_
        refine s_reg [0, 1] rfl ?_
        refine o_pu rfl (ev_bin rfl rfl rfl rfl (add_i _ 1)) (g0 rfl) rfl rfl ?_
        refine o_pu rfl (ev_move rfl rfl) (g0 rfl) rfl rfl ?_
        refine o_nil ?_
        refine q_loop ?_
        exact k_wk (ih ((wrap64 (s496.1 + 1)), r500) () H) [2, 4, 5, 6, 7, 14] [0] 1 [0, 0, 0, 0, 0] 0 rfl rfl rfl
      · intro hb497
        have H := cnd_f H hb497
        refine s_exit ?_
        refine q_then_x ?_
        refine q_then_x ?_
        refine q_block_x ?_
        exact k_wk (J485 s496.2 () H) [2, 4, 7] [0] 1 [0, 0, 0, 0, 0] 0 rfl rfl rfl
  have hN4_8 : ∀ (b205 : Nat), ∀ (b245 : Nat), ∀ (b285 : Nat), ∀ (r125 : (Arr UInt32 64)), ∀ (r85 : (Arr UInt32 64)), (jn (fun (x486 : Arr UInt32 8) => jn (fun (x489 : Arr UInt32 8) => some x489) fun J488 => sha_mix_l0 x486 J488 Fuel (0, a0_h)) fun J485 => sha_mix_l1 r85 r125 J485 Fuel (0, a0_h)) = some r → R (Sl E8 A1 c2 a1_b :: D0) (At b205 0 (r85.l.flatMap E32) :: At b245 0 (r125.l.flatMap E32) :: At b285 0 ((Arr.zero 0 8 : Arr UInt32 8).l.flatMap E32) :: At b3 0 (a0_h.l.flatMap E32) :: At b4 0 ((Arr.zero 0 8 : Arr UInt32 8).l.flatMap E32) :: G0) [(0, (.agg (a0_h.l.flatMap E32).toArray)), (1, (.slice A1 a1_b.length c2)), (2, (.pointer (some ⟨b3, 0, none⟩))), (4, (.pointer (some ⟨b4, 0, none⟩))), (5, (.pointer (some ⟨b205, 0, none⟩))), (6, (.pointer (some ⟨b245, 0, none⟩))), (7, (.pointer (some ⟨b285, 0, none⟩))), (10, (.slice A1 a1_b.length c2)), (11, (.agg (r85.l.flatMap E32).toArray)), (12, (.agg (r125.l.flatMap E32).toArray)), (13, (.agg (a0_h.l.flatMap E32).toArray))] 1 #[true, true, true, true, true, true, true, true, true, false] := by
    intro b205 b245 b285 r125 r85 H
    refine to ?_
    refine acs [9] rfl (by kernel_rfl) sl_nil ⟨?_, trivial⟩
    · refine k_st (j := 0) rfl rfl rfl rfl (vs := a0_h.l.flatMap E32) rfl (sz (arr_len E32_len _ rfl) Tryd.sizeOf144) (arr_sc E32_one _) 2 rfl (spl_all ((arr_len E32_len _ rfl).trans (arr_len E32_len _ rfl).symm)) rfl (g0 rfl) rfl ?_
      exact wa_l (by kernel_rfl) (k_wk (fro (hN4_9 b205 b245 b285 r125 r85 H)) [0, 1, 2, 4, 5, 6, 7, 10, 11, 12, 13] [0] 1 [0, 0, 0, 0, 0] 0 rfl rfl rfl)
  have hN4_7 : ∀ (b205 : Nat), ∀ (b245 : Nat), ∀ (b285 : Nat), ∀ (r125 : (Arr UInt32 64)), ∀ (r85 : (Arr UInt32 64)), (jn (fun (x486 : Arr UInt32 8) => jn (fun (x489 : Arr UInt32 8) => some x489) fun J488 => sha_mix_l0 x486 J488 Fuel (0, a0_h)) fun J485 => sha_mix_l1 r85 r125 J485 Fuel (0, a0_h)) = some r → R (Sl E8 A1 c2 a1_b :: D0) (At b205 0 (r85.l.flatMap E32) :: At b245 0 ((Arr.zero 0 64 : Arr UInt32 64).l.flatMap E32) :: At b285 0 ((Arr.zero 0 8 : Arr UInt32 8).l.flatMap E32) :: At b3 0 (a0_h.l.flatMap E32) :: At b4 0 ((Arr.zero 0 8 : Arr UInt32 8).l.flatMap E32) :: G0) [(0, (.agg (a0_h.l.flatMap E32).toArray)), (1, (.slice A1 a1_b.length c2)), (2, (.pointer (some ⟨b3, 0, none⟩))), (4, (.pointer (some ⟨b4, 0, none⟩))), (5, (.pointer (some ⟨b205, 0, none⟩))), (6, (.pointer (some ⟨b245, 0, none⟩))), (7, (.pointer (some ⟨b285, 0, none⟩))), (10, (.slice A1 a1_b.length c2)), (11, (.agg (r85.l.flatMap E32).toArray)), (12, (.agg (r125.l.flatMap E32).toArray)), (13, (.agg (a0_h.l.flatMap E32).toArray))] 2 #[true, true, true, true, true, true, true, true, false, false] := by
    intro b205 b245 b285 r125 r85 H
    refine to ?_
    refine acs [8] rfl (by kernel_rfl) sl_nil ⟨?_, trivial⟩
    · refine k_st (j := 0) rfl rfl rfl rfl (vs := r125.l.flatMap E32) rfl (sz (arr_len E32_len _ rfl) Tryd.sizeOf172) (arr_sc E32_one _) 1 rfl (spl_all ((arr_len E32_len _ rfl).trans (arr_len E32_len _ rfl).symm)) rfl (g0 rfl) rfl ?_
      exact wa_l (by kernel_rfl) (k_wk (fro (hN4_8 b205 b245 b285 r125 r85 H)) [0, 1, 2, 4, 5, 6, 7, 10, 11, 12, 13] [0] 1 [0, 0, 0, 0, 0] 0 rfl rfl rfl)
  have hN4_6 : ∀ (b205 : Nat), ∀ (b245 : Nat), ∀ (b285 : Nat), ∀ (r125 : (Arr UInt32 64)), ∀ (r85 : (Arr UInt32 64)), (jn (fun (x486 : Arr UInt32 8) => jn (fun (x489 : Arr UInt32 8) => some x489) fun J488 => sha_mix_l0 x486 J488 Fuel (0, a0_h)) fun J485 => sha_mix_l1 r85 r125 J485 Fuel (0, a0_h)) = some r → R (Sl E8 A1 c2 a1_b :: D0) (At b205 0 ((Arr.zero 0 64 : Arr UInt32 64).l.flatMap E32) :: At b245 0 ((Arr.zero 0 64 : Arr UInt32 64).l.flatMap E32) :: At b285 0 ((Arr.zero 0 8 : Arr UInt32 8).l.flatMap E32) :: At b3 0 (a0_h.l.flatMap E32) :: At b4 0 ((Arr.zero 0 8 : Arr UInt32 8).l.flatMap E32) :: G0) [(0, (.agg (a0_h.l.flatMap E32).toArray)), (1, (.slice A1 a1_b.length c2)), (2, (.pointer (some ⟨b3, 0, none⟩))), (4, (.pointer (some ⟨b4, 0, none⟩))), (5, (.pointer (some ⟨b205, 0, none⟩))), (6, (.pointer (some ⟨b245, 0, none⟩))), (7, (.pointer (some ⟨b285, 0, none⟩))), (10, (.slice A1 a1_b.length c2)), (11, (.agg (r85.l.flatMap E32).toArray)), (12, (.agg (r125.l.flatMap E32).toArray)), (13, (.agg (a0_h.l.flatMap E32).toArray))] 3 #[true, true, true, true, true, true, true, false, false, false] := by
    intro b205 b245 b285 r125 r85 H
    refine to ?_
    refine acs [7] rfl (by kernel_rfl) sl_nil ⟨?_, trivial⟩
    · refine k_st (j := 0) rfl rfl rfl rfl (vs := r85.l.flatMap E32) rfl (sz (arr_len E32_len _ rfl) Tryd.sizeOf172) (arr_sc E32_one _) 0 rfl (spl_all ((arr_len E32_len _ rfl).trans (arr_len E32_len _ rfl).symm)) rfl (g0 rfl) rfl ?_
      exact wa_l (by kernel_rfl) (k_wk (fro (hN4_7 b205 b245 b285 r125 r85 H)) [0, 1, 2, 4, 5, 6, 7, 10, 11, 12, 13] [0] 1 [0, 0, 0, 0, 0] 0 rfl rfl rfl)
  have hN4_5 : ∀ (b205 : Nat), ∀ (b245 : Nat), ∀ (r125 : (Arr UInt32 64)), ∀ (r85 : (Arr UInt32 64)), (jn (fun (x486 : Arr UInt32 8) => jn (fun (x489 : Arr UInt32 8) => some x489) fun J488 => sha_mix_l0 x486 J488 Fuel (0, a0_h)) fun J485 => sha_mix_l1 r85 r125 J485 Fuel (0, a0_h)) = some r → R (Sl E8 A1 c2 a1_b :: D0) (At b205 0 ((Arr.zero 0 64 : Arr UInt32 64).l.flatMap E32) :: At b245 0 ((Arr.zero 0 64 : Arr UInt32 64).l.flatMap E32) :: At b3 0 (a0_h.l.flatMap E32) :: At b4 0 ((Arr.zero 0 8 : Arr UInt32 8).l.flatMap E32) :: G0) [(0, (.agg (a0_h.l.flatMap E32).toArray)), (1, (.slice A1 a1_b.length c2)), (2, (.pointer (some ⟨b3, 0, none⟩))), (4, (.pointer (some ⟨b4, 0, none⟩))), (5, (.pointer (some ⟨b205, 0, none⟩))), (6, (.pointer (some ⟨b245, 0, none⟩))), (10, (.slice A1 a1_b.length c2)), (11, (.agg (r85.l.flatMap E32).toArray)), (12, (.agg (r125.l.flatMap E32).toArray)), (13, (.agg (a0_h.l.flatMap E32).toArray))] 4 #[true, true, true, true, true, true, false, false, false, false] := by
    intro b205 b245 r125 r85 H
    refine to ?_
    refine acs [6] rfl (by kernel_rfl) sl_nil ⟨?_, trivial⟩
    · refine k_alloc rfl rfl Tryd.zeroValue144 (cs := (Arr.zero 0 8 : Arr UInt32 8).l.flatMap E32) rfl (g0 rfl) rfl rfl ?_
      intro b285
      exact wa_l (by kernel_rfl) (k_wk (fro (hN4_6 b205 b245 b285 r125 r85 H)) [0, 1, 2, 4, 5, 6, 7, 10, 11, 12, 13] [0] 1 [1, 1, 0, 0, 0] 0 rfl rfl rfl)
  have hN4_10 : ∀ (b205 : Nat), ∀ (b285 : Nat), ∀ (r125 : (Arr UInt32 64)), ∀ (r85 : (Arr UInt32 64)), (jn (fun (x486 : Arr UInt32 8) => jn (fun (x489 : Arr UInt32 8) => some x489) fun J488 => sha_mix_l0 x486 J488 Fuel (0, a0_h)) fun J485 => sha_mix_l1 r85 r125 J485 Fuel (0, a0_h)) = some r → R (Sl E8 A1 c2 a1_b :: D0) (At b205 0 ((Arr.zero 0 64 : Arr UInt32 64).l.flatMap E32) :: At b285 0 ((Arr.zero 0 8 : Arr UInt32 8).l.flatMap E32) :: At b3 0 (a0_h.l.flatMap E32) :: At b4 0 ((Arr.zero 0 8 : Arr UInt32 8).l.flatMap E32) :: G0) [(0, (.agg (a0_h.l.flatMap E32).toArray)), (1, (.slice A1 a1_b.length c2)), (2, (.pointer (some ⟨b3, 0, none⟩))), (4, (.pointer (some ⟨b4, 0, none⟩))), (5, (.pointer (some ⟨b205, 0, none⟩))), (7, (.pointer (some ⟨b285, 0, none⟩))), (10, (.slice A1 a1_b.length c2)), (11, (.agg (r85.l.flatMap E32).toArray)), (12, (.agg (r125.l.flatMap E32).toArray)), (13, (.agg (a0_h.l.flatMap E32).toArray))] 4 #[true, true, true, true, true, false, true, false, false, false] := by
    intro b205 b285 r125 r85 H
    refine to ?_
    refine acs [5] rfl (by kernel_rfl) sl_nil ⟨?_, trivial⟩
    · refine k_alloc rfl rfl Tryd.zeroValue172 (cs := (Arr.zero 0 64 : Arr UInt32 64).l.flatMap E32) rfl (g0 rfl) rfl rfl ?_
      intro b245
      exact wa_l (by kernel_rfl) (k_wk (fro (hN4_6 b205 b245 b285 r125 r85 H)) [0, 1, 2, 4, 5, 6, 7, 10, 11, 12, 13] [0] 1 [1, 0, 0, 0, 0] 0 rfl rfl rfl)
  have hN4_4 : ∀ (b205 : Nat), ∀ (r125 : (Arr UInt32 64)), ∀ (r85 : (Arr UInt32 64)), (jn (fun (x486 : Arr UInt32 8) => jn (fun (x489 : Arr UInt32 8) => some x489) fun J488 => sha_mix_l0 x486 J488 Fuel (0, a0_h)) fun J485 => sha_mix_l1 r85 r125 J485 Fuel (0, a0_h)) = some r → R (Sl E8 A1 c2 a1_b :: D0) (At b205 0 ((Arr.zero 0 64 : Arr UInt32 64).l.flatMap E32) :: At b3 0 (a0_h.l.flatMap E32) :: At b4 0 ((Arr.zero 0 8 : Arr UInt32 8).l.flatMap E32) :: G0) [(0, (.agg (a0_h.l.flatMap E32).toArray)), (1, (.slice A1 a1_b.length c2)), (2, (.pointer (some ⟨b3, 0, none⟩))), (4, (.pointer (some ⟨b4, 0, none⟩))), (5, (.pointer (some ⟨b205, 0, none⟩))), (10, (.slice A1 a1_b.length c2)), (11, (.agg (r85.l.flatMap E32).toArray)), (12, (.agg (r125.l.flatMap E32).toArray)), (13, (.agg (a0_h.l.flatMap E32).toArray))] 5 #[true, true, true, true, true, false, false, false, false, false] := by
    intro b205 r125 r85 H
    refine to ?_
    refine acs [5, 6] rfl (by kernel_rfl) sl_nil ⟨?_, ?_, trivial⟩
    · refine k_alloc rfl rfl Tryd.zeroValue172 (cs := (Arr.zero 0 64 : Arr UInt32 64).l.flatMap E32) rfl (g0 rfl) rfl rfl ?_
      intro b245
      exact wa_l (by kernel_rfl) (k_wk (fro (hN4_5 b205 b245 r125 r85 H)) [0, 1, 2, 4, 5, 6, 10, 11, 12, 13] [0] 1 [1, 0, 0, 0] 0 rfl rfl rfl)
    · refine k_alloc rfl rfl Tryd.zeroValue144 (cs := (Arr.zero 0 8 : Arr UInt32 8).l.flatMap E32) rfl (g0 rfl) rfl rfl ?_
      intro b285
      exact wa_l (by kernel_rfl) (k_wk (fro (hN4_10 b205 b285 r125 r85 H)) [0, 1, 2, 4, 5, 7, 10, 11, 12, 13] [0] 1 [1, 0, 0, 0] 0 rfl rfl rfl)
  have hN4_12 : ∀ (b245 : Nat), ∀ (b285 : Nat), ∀ (r125 : (Arr UInt32 64)), ∀ (r85 : (Arr UInt32 64)), (jn (fun (x486 : Arr UInt32 8) => jn (fun (x489 : Arr UInt32 8) => some x489) fun J488 => sha_mix_l0 x486 J488 Fuel (0, a0_h)) fun J485 => sha_mix_l1 r85 r125 J485 Fuel (0, a0_h)) = some r → R (Sl E8 A1 c2 a1_b :: D0) (At b245 0 ((Arr.zero 0 64 : Arr UInt32 64).l.flatMap E32) :: At b285 0 ((Arr.zero 0 8 : Arr UInt32 8).l.flatMap E32) :: At b3 0 (a0_h.l.flatMap E32) :: At b4 0 ((Arr.zero 0 8 : Arr UInt32 8).l.flatMap E32) :: G0) [(0, (.agg (a0_h.l.flatMap E32).toArray)), (1, (.slice A1 a1_b.length c2)), (2, (.pointer (some ⟨b3, 0, none⟩))), (4, (.pointer (some ⟨b4, 0, none⟩))), (6, (.pointer (some ⟨b245, 0, none⟩))), (7, (.pointer (some ⟨b285, 0, none⟩))), (10, (.slice A1 a1_b.length c2)), (11, (.agg (r85.l.flatMap E32).toArray)), (12, (.agg (r125.l.flatMap E32).toArray)), (13, (.agg (a0_h.l.flatMap E32).toArray))] 4 #[true, true, true, true, false, true, true, false, false, false] := by
    intro b245 b285 r125 r85 H
    refine to ?_
    refine acs [4] rfl (by kernel_rfl) sl_nil ⟨?_, trivial⟩
    · refine k_alloc rfl rfl Tryd.zeroValue172 (cs := (Arr.zero 0 64 : Arr UInt32 64).l.flatMap E32) rfl (g0 rfl) rfl rfl ?_
      intro b205
      exact wa_l (by kernel_rfl) (k_wk (fro (hN4_6 b205 b245 b285 r125 r85 H)) [0, 1, 2, 4, 5, 6, 7, 10, 11, 12, 13] [0] 1 [0, 0, 0, 0, 0] 0 rfl rfl rfl)
  have hN4_11 : ∀ (b245 : Nat), ∀ (r125 : (Arr UInt32 64)), ∀ (r85 : (Arr UInt32 64)), (jn (fun (x486 : Arr UInt32 8) => jn (fun (x489 : Arr UInt32 8) => some x489) fun J488 => sha_mix_l0 x486 J488 Fuel (0, a0_h)) fun J485 => sha_mix_l1 r85 r125 J485 Fuel (0, a0_h)) = some r → R (Sl E8 A1 c2 a1_b :: D0) (At b245 0 ((Arr.zero 0 64 : Arr UInt32 64).l.flatMap E32) :: At b3 0 (a0_h.l.flatMap E32) :: At b4 0 ((Arr.zero 0 8 : Arr UInt32 8).l.flatMap E32) :: G0) [(0, (.agg (a0_h.l.flatMap E32).toArray)), (1, (.slice A1 a1_b.length c2)), (2, (.pointer (some ⟨b3, 0, none⟩))), (4, (.pointer (some ⟨b4, 0, none⟩))), (6, (.pointer (some ⟨b245, 0, none⟩))), (10, (.slice A1 a1_b.length c2)), (11, (.agg (r85.l.flatMap E32).toArray)), (12, (.agg (r125.l.flatMap E32).toArray)), (13, (.agg (a0_h.l.flatMap E32).toArray))] 5 #[true, true, true, true, false, true, false, false, false, false] := by
    intro b245 r125 r85 H
    refine to ?_
    refine acs [4, 6] rfl (by kernel_rfl) sl_nil ⟨?_, ?_, trivial⟩
    · refine k_alloc rfl rfl Tryd.zeroValue172 (cs := (Arr.zero 0 64 : Arr UInt32 64).l.flatMap E32) rfl (g0 rfl) rfl rfl ?_
      intro b205
      exact wa_l (by kernel_rfl) (k_wk (fro (hN4_5 b205 b245 r125 r85 H)) [0, 1, 2, 4, 5, 6, 10, 11, 12, 13] [0] 1 [0, 0, 0, 0] 0 rfl rfl rfl)
    · refine k_alloc rfl rfl Tryd.zeroValue144 (cs := (Arr.zero 0 8 : Arr UInt32 8).l.flatMap E32) rfl (g0 rfl) rfl rfl ?_
      intro b285
      exact wa_l (by kernel_rfl) (k_wk (fro (hN4_12 b245 b285 r125 r85 H)) [0, 1, 2, 4, 6, 7, 10, 11, 12, 13] [0] 1 [1, 0, 0, 0] 0 rfl rfl rfl)
  have hN4_13 : ∀ (b285 : Nat), ∀ (r125 : (Arr UInt32 64)), ∀ (r85 : (Arr UInt32 64)), (jn (fun (x486 : Arr UInt32 8) => jn (fun (x489 : Arr UInt32 8) => some x489) fun J488 => sha_mix_l0 x486 J488 Fuel (0, a0_h)) fun J485 => sha_mix_l1 r85 r125 J485 Fuel (0, a0_h)) = some r → R (Sl E8 A1 c2 a1_b :: D0) (At b285 0 ((Arr.zero 0 8 : Arr UInt32 8).l.flatMap E32) :: At b3 0 (a0_h.l.flatMap E32) :: At b4 0 ((Arr.zero 0 8 : Arr UInt32 8).l.flatMap E32) :: G0) [(0, (.agg (a0_h.l.flatMap E32).toArray)), (1, (.slice A1 a1_b.length c2)), (2, (.pointer (some ⟨b3, 0, none⟩))), (4, (.pointer (some ⟨b4, 0, none⟩))), (7, (.pointer (some ⟨b285, 0, none⟩))), (10, (.slice A1 a1_b.length c2)), (11, (.agg (r85.l.flatMap E32).toArray)), (12, (.agg (r125.l.flatMap E32).toArray)), (13, (.agg (a0_h.l.flatMap E32).toArray))] 5 #[true, true, true, true, false, false, true, false, false, false] := by
    intro b285 r125 r85 H
    refine to ?_
    refine acs [4, 5] rfl (by kernel_rfl) sl_nil ⟨?_, ?_, trivial⟩
    · refine k_alloc rfl rfl Tryd.zeroValue172 (cs := (Arr.zero 0 64 : Arr UInt32 64).l.flatMap E32) rfl (g0 rfl) rfl rfl ?_
      intro b205
      exact wa_l (by kernel_rfl) (k_wk (fro (hN4_10 b205 b285 r125 r85 H)) [0, 1, 2, 4, 5, 7, 10, 11, 12, 13] [0] 1 [0, 0, 0, 0] 0 rfl rfl rfl)
    · refine k_alloc rfl rfl Tryd.zeroValue172 (cs := (Arr.zero 0 64 : Arr UInt32 64).l.flatMap E32) rfl (g0 rfl) rfl rfl ?_
      intro b245
      exact wa_l (by kernel_rfl) (k_wk (fro (hN4_12 b245 b285 r125 r85 H)) [0, 1, 2, 4, 6, 7, 10, 11, 12, 13] [0] 1 [0, 0, 0, 0] 0 rfl rfl rfl)
  have hN4_3 : ∀ (r125 : (Arr UInt32 64)), ∀ (r85 : (Arr UInt32 64)), (jn (fun (x486 : Arr UInt32 8) => jn (fun (x489 : Arr UInt32 8) => some x489) fun J488 => sha_mix_l0 x486 J488 Fuel (0, a0_h)) fun J485 => sha_mix_l1 r85 r125 J485 Fuel (0, a0_h)) = some r → R (Sl E8 A1 c2 a1_b :: D0) (At b3 0 (a0_h.l.flatMap E32) :: At b4 0 ((Arr.zero 0 8 : Arr UInt32 8).l.flatMap E32) :: G0) [(0, (.agg (a0_h.l.flatMap E32).toArray)), (1, (.slice A1 a1_b.length c2)), (2, (.pointer (some ⟨b3, 0, none⟩))), (4, (.pointer (some ⟨b4, 0, none⟩))), (10, (.slice A1 a1_b.length c2)), (11, (.agg (r85.l.flatMap E32).toArray)), (12, (.agg (r125.l.flatMap E32).toArray)), (13, (.agg (a0_h.l.flatMap E32).toArray))] 6 #[true, true, true, true, false, false, false, false, false, false] := by
    intro r125 r85 H
    refine to ?_
    refine acs [4, 5, 6] rfl (by kernel_rfl) sl_nil ⟨?_, ?_, ?_, trivial⟩
    · refine k_alloc rfl rfl Tryd.zeroValue172 (cs := (Arr.zero 0 64 : Arr UInt32 64).l.flatMap E32) rfl (g0 rfl) rfl rfl ?_
      intro b205
      exact wa_l (by kernel_rfl) (k_wk (fro (hN4_4 b205 r125 r85 H)) [0, 1, 2, 4, 5, 10, 11, 12, 13] [0] 1 [0, 0, 0] 0 rfl rfl rfl)
    · refine k_alloc rfl rfl Tryd.zeroValue172 (cs := (Arr.zero 0 64 : Arr UInt32 64).l.flatMap E32) rfl (g0 rfl) rfl rfl ?_
      intro b245
      exact wa_l (by kernel_rfl) (k_wk (fro (hN4_11 b245 r125 r85 H)) [0, 1, 2, 4, 6, 10, 11, 12, 13] [0] 1 [0, 0, 0] 0 rfl rfl rfl)
    · refine k_alloc rfl rfl Tryd.zeroValue144 (cs := (Arr.zero 0 8 : Arr UInt32 8).l.flatMap E32) rfl (g0 rfl) rfl rfl ?_
      intro b285
      exact wa_l (by kernel_rfl) (k_wk (fro (hN4_13 b285 r125 r85 H)) [0, 1, 2, 4, 7, 10, 11, 12, 13] [0] 1 [0, 0, 0] 0 rfl rfl rfl)
  have hN4_18 : ∀ (b205 : Nat), ∀ (b245 : Nat), ∀ (b285 : Nat), ∀ (r125 : (Arr UInt32 64)), ∀ (r85 : (Arr UInt32 64)), (jn (fun (x486 : Arr UInt32 8) => jn (fun (x489 : Arr UInt32 8) => some x489) fun J488 => sha_mix_l0 x486 J488 Fuel (0, a0_h)) fun J485 => sha_mix_l1 r85 r125 J485 Fuel (0, a0_h)) = some r → R (Sl E8 A1 c2 a1_b :: D0) (At b205 0 (r85.l.flatMap E32) :: At b245 0 (r125.l.flatMap E32) :: At b285 0 ((Arr.zero 0 8 : Arr UInt32 8).l.flatMap E32) :: At b3 0 (a0_h.l.flatMap E32) :: At b4 0 ((Arr.zero 0 8 : Arr UInt32 8).l.flatMap E32) :: G0) [(0, (.agg (a0_h.l.flatMap E32).toArray)), (1, (.slice A1 a1_b.length c2)), (2, (.pointer (some ⟨b3, 0, none⟩))), (4, (.pointer (some ⟨b4, 0, none⟩))), (5, (.pointer (some ⟨b205, 0, none⟩))), (6, (.pointer (some ⟨b245, 0, none⟩))), (7, (.pointer (some ⟨b285, 0, none⟩))), (10, (.slice A1 a1_b.length c2)), (11, (.agg (r85.l.flatMap E32).toArray)), (12, (.agg (r125.l.flatMap E32).toArray))] 2 #[true, true, true, false, true, true, true, true, true, false] := by
    intro b205 b245 b285 r125 r85 H
    refine to ?_
    refine acs [3] rfl (by kernel_rfl) sl_nil ⟨?_, trivial⟩
    · refine k_ld (hG 3 rfl) rfl (ev_ldN (j := 0) rfl rfl Tryd.isAgg144 (sz (arr_len E32_len _ rfl) Tryd.sizeOf144) (sub_all _) rfl) (g0 rfl) rfl rfl ?_
      exact wa_l (by kernel_rfl) (k_wk (fro (hN4_8 b205 b245 b285 r125 r85 H)) [0, 1, 2, 4, 5, 6, 7, 10, 11, 12, 13] [0] 1 [0, 0, 0, 0, 0] 0 rfl rfl rfl)
  have hN4_17 : ∀ (b205 : Nat), ∀ (b245 : Nat), ∀ (b285 : Nat), ∀ (r125 : (Arr UInt32 64)), ∀ (r85 : (Arr UInt32 64)), (jn (fun (x486 : Arr UInt32 8) => jn (fun (x489 : Arr UInt32 8) => some x489) fun J488 => sha_mix_l0 x486 J488 Fuel (0, a0_h)) fun J485 => sha_mix_l1 r85 r125 J485 Fuel (0, a0_h)) = some r → R (Sl E8 A1 c2 a1_b :: D0) (At b205 0 (r85.l.flatMap E32) :: At b245 0 ((Arr.zero 0 64 : Arr UInt32 64).l.flatMap E32) :: At b285 0 ((Arr.zero 0 8 : Arr UInt32 8).l.flatMap E32) :: At b3 0 (a0_h.l.flatMap E32) :: At b4 0 ((Arr.zero 0 8 : Arr UInt32 8).l.flatMap E32) :: G0) [(0, (.agg (a0_h.l.flatMap E32).toArray)), (1, (.slice A1 a1_b.length c2)), (2, (.pointer (some ⟨b3, 0, none⟩))), (4, (.pointer (some ⟨b4, 0, none⟩))), (5, (.pointer (some ⟨b205, 0, none⟩))), (6, (.pointer (some ⟨b245, 0, none⟩))), (7, (.pointer (some ⟨b285, 0, none⟩))), (10, (.slice A1 a1_b.length c2)), (11, (.agg (r85.l.flatMap E32).toArray)), (12, (.agg (r125.l.flatMap E32).toArray))] 3 #[true, true, true, false, true, true, true, true, false, false] := by
    intro b205 b245 b285 r125 r85 H
    refine to ?_
    refine acs [3, 8] rfl (by kernel_rfl) sl_nil ⟨?_, ?_, trivial⟩
    · refine k_ld (hG 3 rfl) rfl (ev_ldN (j := 0) rfl rfl Tryd.isAgg144 (sz (arr_len E32_len _ rfl) Tryd.sizeOf144) (sub_all _) rfl) (g0 rfl) rfl rfl ?_
      exact wa_l (by kernel_rfl) (k_wk (fro (hN4_7 b205 b245 b285 r125 r85 H)) [0, 1, 2, 4, 5, 6, 7, 10, 11, 12, 13] [0] 1 [0, 0, 0, 0, 0] 0 rfl rfl rfl)
    · refine k_st (j := 0) rfl rfl rfl rfl (vs := r125.l.flatMap E32) rfl (sz (arr_len E32_len _ rfl) Tryd.sizeOf172) (arr_sc E32_one _) 1 rfl (spl_all ((arr_len E32_len _ rfl).trans (arr_len E32_len _ rfl).symm)) rfl (g0 rfl) rfl ?_
      exact wa_l (by kernel_rfl) (k_wk (fro (hN4_18 b205 b245 b285 r125 r85 H)) [0, 1, 2, 4, 5, 6, 7, 10, 11, 12] [0] 1 [0, 0, 0, 0, 0] 0 rfl rfl rfl)
  have hN4_16 : ∀ (b205 : Nat), ∀ (b245 : Nat), ∀ (b285 : Nat), ∀ (r125 : (Arr UInt32 64)), ∀ (r85 : (Arr UInt32 64)), (jn (fun (x486 : Arr UInt32 8) => jn (fun (x489 : Arr UInt32 8) => some x489) fun J488 => sha_mix_l0 x486 J488 Fuel (0, a0_h)) fun J485 => sha_mix_l1 r85 r125 J485 Fuel (0, a0_h)) = some r → R (Sl E8 A1 c2 a1_b :: D0) (At b205 0 ((Arr.zero 0 64 : Arr UInt32 64).l.flatMap E32) :: At b245 0 ((Arr.zero 0 64 : Arr UInt32 64).l.flatMap E32) :: At b285 0 ((Arr.zero 0 8 : Arr UInt32 8).l.flatMap E32) :: At b3 0 (a0_h.l.flatMap E32) :: At b4 0 ((Arr.zero 0 8 : Arr UInt32 8).l.flatMap E32) :: G0) [(0, (.agg (a0_h.l.flatMap E32).toArray)), (1, (.slice A1 a1_b.length c2)), (2, (.pointer (some ⟨b3, 0, none⟩))), (4, (.pointer (some ⟨b4, 0, none⟩))), (5, (.pointer (some ⟨b205, 0, none⟩))), (6, (.pointer (some ⟨b245, 0, none⟩))), (7, (.pointer (some ⟨b285, 0, none⟩))), (10, (.slice A1 a1_b.length c2)), (11, (.agg (r85.l.flatMap E32).toArray)), (12, (.agg (r125.l.flatMap E32).toArray))] 4 #[true, true, true, false, true, true, true, false, false, false] := by
    intro b205 b245 b285 r125 r85 H
    refine to ?_
    refine acs [3, 7] rfl (by kernel_rfl) sl_nil ⟨?_, ?_, trivial⟩
    · refine k_ld (hG 3 rfl) rfl (ev_ldN (j := 0) rfl rfl Tryd.isAgg144 (sz (arr_len E32_len _ rfl) Tryd.sizeOf144) (sub_all _) rfl) (g0 rfl) rfl rfl ?_
      exact wa_l (by kernel_rfl) (k_wk (fro (hN4_6 b205 b245 b285 r125 r85 H)) [0, 1, 2, 4, 5, 6, 7, 10, 11, 12, 13] [0] 1 [0, 0, 0, 0, 0] 0 rfl rfl rfl)
    · refine k_st (j := 0) rfl rfl rfl rfl (vs := r85.l.flatMap E32) rfl (sz (arr_len E32_len _ rfl) Tryd.sizeOf172) (arr_sc E32_one _) 0 rfl (spl_all ((arr_len E32_len _ rfl).trans (arr_len E32_len _ rfl).symm)) rfl (g0 rfl) rfl ?_
      exact wa_l (by kernel_rfl) (k_wk (fro (hN4_17 b205 b245 b285 r125 r85 H)) [0, 1, 2, 4, 5, 6, 7, 10, 11, 12] [0] 1 [0, 0, 0, 0, 0] 0 rfl rfl rfl)
  have hN4_15 : ∀ (b205 : Nat), ∀ (b245 : Nat), ∀ (r125 : (Arr UInt32 64)), ∀ (r85 : (Arr UInt32 64)), (jn (fun (x486 : Arr UInt32 8) => jn (fun (x489 : Arr UInt32 8) => some x489) fun J488 => sha_mix_l0 x486 J488 Fuel (0, a0_h)) fun J485 => sha_mix_l1 r85 r125 J485 Fuel (0, a0_h)) = some r → R (Sl E8 A1 c2 a1_b :: D0) (At b205 0 ((Arr.zero 0 64 : Arr UInt32 64).l.flatMap E32) :: At b245 0 ((Arr.zero 0 64 : Arr UInt32 64).l.flatMap E32) :: At b3 0 (a0_h.l.flatMap E32) :: At b4 0 ((Arr.zero 0 8 : Arr UInt32 8).l.flatMap E32) :: G0) [(0, (.agg (a0_h.l.flatMap E32).toArray)), (1, (.slice A1 a1_b.length c2)), (2, (.pointer (some ⟨b3, 0, none⟩))), (4, (.pointer (some ⟨b4, 0, none⟩))), (5, (.pointer (some ⟨b205, 0, none⟩))), (6, (.pointer (some ⟨b245, 0, none⟩))), (10, (.slice A1 a1_b.length c2)), (11, (.agg (r85.l.flatMap E32).toArray)), (12, (.agg (r125.l.flatMap E32).toArray))] 5 #[true, true, true, false, true, true, false, false, false, false] := by
    intro b205 b245 r125 r85 H
    refine to ?_
    refine acs [3, 6] rfl (by kernel_rfl) sl_nil ⟨?_, ?_, trivial⟩
    · refine k_ld (hG 2 rfl) rfl (ev_ldN (j := 0) rfl rfl Tryd.isAgg144 (sz (arr_len E32_len _ rfl) Tryd.sizeOf144) (sub_all _) rfl) (g0 rfl) rfl rfl ?_
      exact wa_l (by kernel_rfl) (k_wk (fro (hN4_5 b205 b245 r125 r85 H)) [0, 1, 2, 4, 5, 6, 10, 11, 12, 13] [0] 1 [0, 0, 0, 0] 0 rfl rfl rfl)
    · refine k_alloc rfl rfl Tryd.zeroValue144 (cs := (Arr.zero 0 8 : Arr UInt32 8).l.flatMap E32) rfl (g0 rfl) rfl rfl ?_
      intro b285
      exact wa_l (by kernel_rfl) (k_wk (fro (hN4_16 b205 b245 b285 r125 r85 H)) [0, 1, 2, 4, 5, 6, 7, 10, 11, 12] [0] 1 [1, 1, 0, 0, 0] 0 rfl rfl rfl)
  have hN4_19 : ∀ (b205 : Nat), ∀ (b285 : Nat), ∀ (r125 : (Arr UInt32 64)), ∀ (r85 : (Arr UInt32 64)), (jn (fun (x486 : Arr UInt32 8) => jn (fun (x489 : Arr UInt32 8) => some x489) fun J488 => sha_mix_l0 x486 J488 Fuel (0, a0_h)) fun J485 => sha_mix_l1 r85 r125 J485 Fuel (0, a0_h)) = some r → R (Sl E8 A1 c2 a1_b :: D0) (At b205 0 ((Arr.zero 0 64 : Arr UInt32 64).l.flatMap E32) :: At b285 0 ((Arr.zero 0 8 : Arr UInt32 8).l.flatMap E32) :: At b3 0 (a0_h.l.flatMap E32) :: At b4 0 ((Arr.zero 0 8 : Arr UInt32 8).l.flatMap E32) :: G0) [(0, (.agg (a0_h.l.flatMap E32).toArray)), (1, (.slice A1 a1_b.length c2)), (2, (.pointer (some ⟨b3, 0, none⟩))), (4, (.pointer (some ⟨b4, 0, none⟩))), (5, (.pointer (some ⟨b205, 0, none⟩))), (7, (.pointer (some ⟨b285, 0, none⟩))), (10, (.slice A1 a1_b.length c2)), (11, (.agg (r85.l.flatMap E32).toArray)), (12, (.agg (r125.l.flatMap E32).toArray))] 5 #[true, true, true, false, true, false, true, false, false, false] := by
    intro b205 b285 r125 r85 H
    refine to ?_
    refine acs [3, 5] rfl (by kernel_rfl) sl_nil ⟨?_, ?_, trivial⟩
    · refine k_ld (hG 2 rfl) rfl (ev_ldN (j := 0) rfl rfl Tryd.isAgg144 (sz (arr_len E32_len _ rfl) Tryd.sizeOf144) (sub_all _) rfl) (g0 rfl) rfl rfl ?_
      exact wa_l (by kernel_rfl) (k_wk (fro (hN4_10 b205 b285 r125 r85 H)) [0, 1, 2, 4, 5, 7, 10, 11, 12, 13] [0] 1 [0, 0, 0, 0] 0 rfl rfl rfl)
    · refine k_alloc rfl rfl Tryd.zeroValue172 (cs := (Arr.zero 0 64 : Arr UInt32 64).l.flatMap E32) rfl (g0 rfl) rfl rfl ?_
      intro b245
      exact wa_l (by kernel_rfl) (k_wk (fro (hN4_16 b205 b245 b285 r125 r85 H)) [0, 1, 2, 4, 5, 6, 7, 10, 11, 12] [0] 1 [1, 0, 0, 0, 0] 0 rfl rfl rfl)
  have hN4_14 : ∀ (b205 : Nat), ∀ (r125 : (Arr UInt32 64)), ∀ (r85 : (Arr UInt32 64)), (jn (fun (x486 : Arr UInt32 8) => jn (fun (x489 : Arr UInt32 8) => some x489) fun J488 => sha_mix_l0 x486 J488 Fuel (0, a0_h)) fun J485 => sha_mix_l1 r85 r125 J485 Fuel (0, a0_h)) = some r → R (Sl E8 A1 c2 a1_b :: D0) (At b205 0 ((Arr.zero 0 64 : Arr UInt32 64).l.flatMap E32) :: At b3 0 (a0_h.l.flatMap E32) :: At b4 0 ((Arr.zero 0 8 : Arr UInt32 8).l.flatMap E32) :: G0) [(0, (.agg (a0_h.l.flatMap E32).toArray)), (1, (.slice A1 a1_b.length c2)), (2, (.pointer (some ⟨b3, 0, none⟩))), (4, (.pointer (some ⟨b4, 0, none⟩))), (5, (.pointer (some ⟨b205, 0, none⟩))), (10, (.slice A1 a1_b.length c2)), (11, (.agg (r85.l.flatMap E32).toArray)), (12, (.agg (r125.l.flatMap E32).toArray))] 6 #[true, true, true, false, true, false, false, false, false, false] := by
    intro b205 r125 r85 H
    refine to ?_
    refine acs [3, 5, 6] rfl (by kernel_rfl) sl_nil ⟨?_, ?_, ?_, trivial⟩
    · refine k_ld (hG 1 rfl) rfl (ev_ldN (j := 0) rfl rfl Tryd.isAgg144 (sz (arr_len E32_len _ rfl) Tryd.sizeOf144) (sub_all _) rfl) (g0 rfl) rfl rfl ?_
      exact wa_l (by kernel_rfl) (k_wk (fro (hN4_4 b205 r125 r85 H)) [0, 1, 2, 4, 5, 10, 11, 12, 13] [0] 1 [0, 0, 0] 0 rfl rfl rfl)
    · refine k_alloc rfl rfl Tryd.zeroValue172 (cs := (Arr.zero 0 64 : Arr UInt32 64).l.flatMap E32) rfl (g0 rfl) rfl rfl ?_
      intro b245
      exact wa_l (by kernel_rfl) (k_wk (fro (hN4_15 b205 b245 r125 r85 H)) [0, 1, 2, 4, 5, 6, 10, 11, 12] [0] 1 [1, 0, 0, 0] 0 rfl rfl rfl)
    · refine k_alloc rfl rfl Tryd.zeroValue144 (cs := (Arr.zero 0 8 : Arr UInt32 8).l.flatMap E32) rfl (g0 rfl) rfl rfl ?_
      intro b285
      exact wa_l (by kernel_rfl) (k_wk (fro (hN4_19 b205 b285 r125 r85 H)) [0, 1, 2, 4, 5, 7, 10, 11, 12] [0] 1 [1, 0, 0, 0] 0 rfl rfl rfl)
  have hN4_21 : ∀ (b245 : Nat), ∀ (b285 : Nat), ∀ (r125 : (Arr UInt32 64)), ∀ (r85 : (Arr UInt32 64)), (jn (fun (x486 : Arr UInt32 8) => jn (fun (x489 : Arr UInt32 8) => some x489) fun J488 => sha_mix_l0 x486 J488 Fuel (0, a0_h)) fun J485 => sha_mix_l1 r85 r125 J485 Fuel (0, a0_h)) = some r → R (Sl E8 A1 c2 a1_b :: D0) (At b245 0 ((Arr.zero 0 64 : Arr UInt32 64).l.flatMap E32) :: At b285 0 ((Arr.zero 0 8 : Arr UInt32 8).l.flatMap E32) :: At b3 0 (a0_h.l.flatMap E32) :: At b4 0 ((Arr.zero 0 8 : Arr UInt32 8).l.flatMap E32) :: G0) [(0, (.agg (a0_h.l.flatMap E32).toArray)), (1, (.slice A1 a1_b.length c2)), (2, (.pointer (some ⟨b3, 0, none⟩))), (4, (.pointer (some ⟨b4, 0, none⟩))), (6, (.pointer (some ⟨b245, 0, none⟩))), (7, (.pointer (some ⟨b285, 0, none⟩))), (10, (.slice A1 a1_b.length c2)), (11, (.agg (r85.l.flatMap E32).toArray)), (12, (.agg (r125.l.flatMap E32).toArray))] 5 #[true, true, true, false, false, true, true, false, false, false] := by
    intro b245 b285 r125 r85 H
    refine to ?_
    refine acs [3, 4] rfl (by kernel_rfl) sl_nil ⟨?_, ?_, trivial⟩
    · refine k_ld (hG 2 rfl) rfl (ev_ldN (j := 0) rfl rfl Tryd.isAgg144 (sz (arr_len E32_len _ rfl) Tryd.sizeOf144) (sub_all _) rfl) (g0 rfl) rfl rfl ?_
      exact wa_l (by kernel_rfl) (k_wk (fro (hN4_12 b245 b285 r125 r85 H)) [0, 1, 2, 4, 6, 7, 10, 11, 12, 13] [0] 1 [0, 0, 0, 0] 0 rfl rfl rfl)
    · refine k_alloc rfl rfl Tryd.zeroValue172 (cs := (Arr.zero 0 64 : Arr UInt32 64).l.flatMap E32) rfl (g0 rfl) rfl rfl ?_
      intro b205
      exact wa_l (by kernel_rfl) (k_wk (fro (hN4_16 b205 b245 b285 r125 r85 H)) [0, 1, 2, 4, 5, 6, 7, 10, 11, 12] [0] 1 [0, 0, 0, 0, 0] 0 rfl rfl rfl)
  have hN4_20 : ∀ (b245 : Nat), ∀ (r125 : (Arr UInt32 64)), ∀ (r85 : (Arr UInt32 64)), (jn (fun (x486 : Arr UInt32 8) => jn (fun (x489 : Arr UInt32 8) => some x489) fun J488 => sha_mix_l0 x486 J488 Fuel (0, a0_h)) fun J485 => sha_mix_l1 r85 r125 J485 Fuel (0, a0_h)) = some r → R (Sl E8 A1 c2 a1_b :: D0) (At b245 0 ((Arr.zero 0 64 : Arr UInt32 64).l.flatMap E32) :: At b3 0 (a0_h.l.flatMap E32) :: At b4 0 ((Arr.zero 0 8 : Arr UInt32 8).l.flatMap E32) :: G0) [(0, (.agg (a0_h.l.flatMap E32).toArray)), (1, (.slice A1 a1_b.length c2)), (2, (.pointer (some ⟨b3, 0, none⟩))), (4, (.pointer (some ⟨b4, 0, none⟩))), (6, (.pointer (some ⟨b245, 0, none⟩))), (10, (.slice A1 a1_b.length c2)), (11, (.agg (r85.l.flatMap E32).toArray)), (12, (.agg (r125.l.flatMap E32).toArray))] 6 #[true, true, true, false, false, true, false, false, false, false] := by
    intro b245 r125 r85 H
    refine to ?_
    refine acs [3, 4, 6] rfl (by kernel_rfl) sl_nil ⟨?_, ?_, ?_, trivial⟩
    · refine k_ld (hG 1 rfl) rfl (ev_ldN (j := 0) rfl rfl Tryd.isAgg144 (sz (arr_len E32_len _ rfl) Tryd.sizeOf144) (sub_all _) rfl) (g0 rfl) rfl rfl ?_
      exact wa_l (by kernel_rfl) (k_wk (fro (hN4_11 b245 r125 r85 H)) [0, 1, 2, 4, 6, 10, 11, 12, 13] [0] 1 [0, 0, 0] 0 rfl rfl rfl)
    · refine k_alloc rfl rfl Tryd.zeroValue172 (cs := (Arr.zero 0 64 : Arr UInt32 64).l.flatMap E32) rfl (g0 rfl) rfl rfl ?_
      intro b205
      exact wa_l (by kernel_rfl) (k_wk (fro (hN4_15 b205 b245 r125 r85 H)) [0, 1, 2, 4, 5, 6, 10, 11, 12] [0] 1 [0, 0, 0, 0] 0 rfl rfl rfl)
    · refine k_alloc rfl rfl Tryd.zeroValue144 (cs := (Arr.zero 0 8 : Arr UInt32 8).l.flatMap E32) rfl (g0 rfl) rfl rfl ?_
      intro b285
      exact wa_l (by kernel_rfl) (k_wk (fro (hN4_21 b245 b285 r125 r85 H)) [0, 1, 2, 4, 6, 7, 10, 11, 12] [0] 1 [1, 0, 0, 0] 0 rfl rfl rfl)
  have hN4_22 : ∀ (b285 : Nat), ∀ (r125 : (Arr UInt32 64)), ∀ (r85 : (Arr UInt32 64)), (jn (fun (x486 : Arr UInt32 8) => jn (fun (x489 : Arr UInt32 8) => some x489) fun J488 => sha_mix_l0 x486 J488 Fuel (0, a0_h)) fun J485 => sha_mix_l1 r85 r125 J485 Fuel (0, a0_h)) = some r → R (Sl E8 A1 c2 a1_b :: D0) (At b285 0 ((Arr.zero 0 8 : Arr UInt32 8).l.flatMap E32) :: At b3 0 (a0_h.l.flatMap E32) :: At b4 0 ((Arr.zero 0 8 : Arr UInt32 8).l.flatMap E32) :: G0) [(0, (.agg (a0_h.l.flatMap E32).toArray)), (1, (.slice A1 a1_b.length c2)), (2, (.pointer (some ⟨b3, 0, none⟩))), (4, (.pointer (some ⟨b4, 0, none⟩))), (7, (.pointer (some ⟨b285, 0, none⟩))), (10, (.slice A1 a1_b.length c2)), (11, (.agg (r85.l.flatMap E32).toArray)), (12, (.agg (r125.l.flatMap E32).toArray))] 6 #[true, true, true, false, false, false, true, false, false, false] := by
    intro b285 r125 r85 H
    refine to ?_
    refine acs [3, 4, 5] rfl (by kernel_rfl) sl_nil ⟨?_, ?_, ?_, trivial⟩
    · refine k_ld (hG 1 rfl) rfl (ev_ldN (j := 0) rfl rfl Tryd.isAgg144 (sz (arr_len E32_len _ rfl) Tryd.sizeOf144) (sub_all _) rfl) (g0 rfl) rfl rfl ?_
      exact wa_l (by kernel_rfl) (k_wk (fro (hN4_13 b285 r125 r85 H)) [0, 1, 2, 4, 7, 10, 11, 12, 13] [0] 1 [0, 0, 0] 0 rfl rfl rfl)
    · refine k_alloc rfl rfl Tryd.zeroValue172 (cs := (Arr.zero 0 64 : Arr UInt32 64).l.flatMap E32) rfl (g0 rfl) rfl rfl ?_
      intro b205
      exact wa_l (by kernel_rfl) (k_wk (fro (hN4_19 b205 b285 r125 r85 H)) [0, 1, 2, 4, 5, 7, 10, 11, 12] [0] 1 [0, 0, 0, 0] 0 rfl rfl rfl)
    · refine k_alloc rfl rfl Tryd.zeroValue172 (cs := (Arr.zero 0 64 : Arr UInt32 64).l.flatMap E32) rfl (g0 rfl) rfl rfl ?_
      intro b245
      exact wa_l (by kernel_rfl) (k_wk (fro (hN4_21 b245 b285 r125 r85 H)) [0, 1, 2, 4, 6, 7, 10, 11, 12] [0] 1 [0, 0, 0, 0] 0 rfl rfl rfl)
  have hN4_2 : ∀ (r125 : (Arr UInt32 64)), ∀ (r85 : (Arr UInt32 64)), (jn (fun (x486 : Arr UInt32 8) => jn (fun (x489 : Arr UInt32 8) => some x489) fun J488 => sha_mix_l0 x486 J488 Fuel (0, a0_h)) fun J485 => sha_mix_l1 r85 r125 J485 Fuel (0, a0_h)) = some r → R (Sl E8 A1 c2 a1_b :: D0) (At b3 0 (a0_h.l.flatMap E32) :: At b4 0 ((Arr.zero 0 8 : Arr UInt32 8).l.flatMap E32) :: G0) [(0, (.agg (a0_h.l.flatMap E32).toArray)), (1, (.slice A1 a1_b.length c2)), (2, (.pointer (some ⟨b3, 0, none⟩))), (4, (.pointer (some ⟨b4, 0, none⟩))), (10, (.slice A1 a1_b.length c2)), (11, (.agg (r85.l.flatMap E32).toArray)), (12, (.agg (r125.l.flatMap E32).toArray))] 7 #[true, true, true, false, false, false, false, false, false, false] := by
    intro r125 r85 H
    refine to ?_
    refine acs [3, 4, 5, 6] rfl (by kernel_rfl) sl_nil ⟨?_, ?_, ?_, ?_, trivial⟩
    · refine k_ld (hG 0 rfl) rfl (ev_ldN (j := 0) rfl rfl Tryd.isAgg144 (sz (arr_len E32_len _ rfl) Tryd.sizeOf144) (sub_all _) rfl) (g0 rfl) rfl rfl ?_
      exact wa_l (by kernel_rfl) (k_wk (fro (hN4_3 r125 r85 H)) [0, 1, 2, 4, 10, 11, 12, 13] [0] 1 [0, 0] 0 rfl rfl rfl)
    · refine k_alloc rfl rfl Tryd.zeroValue172 (cs := (Arr.zero 0 64 : Arr UInt32 64).l.flatMap E32) rfl (g0 rfl) rfl rfl ?_
      intro b205
      exact wa_l (by kernel_rfl) (k_wk (fro (hN4_14 b205 r125 r85 H)) [0, 1, 2, 4, 5, 10, 11, 12] [0] 1 [0, 0, 0] 0 rfl rfl rfl)
    · refine k_alloc rfl rfl Tryd.zeroValue172 (cs := (Arr.zero 0 64 : Arr UInt32 64).l.flatMap E32) rfl (g0 rfl) rfl rfl ?_
      intro b245
      exact wa_l (by kernel_rfl) (k_wk (fro (hN4_20 b245 r125 r85 H)) [0, 1, 2, 4, 6, 10, 11, 12] [0] 1 [0, 0, 0] 0 rfl rfl rfl)
    · refine k_alloc rfl rfl Tryd.zeroValue144 (cs := (Arr.zero 0 8 : Arr UInt32 8).l.flatMap E32) rfl (g0 rfl) rfl rfl ?_
      intro b285
      exact wa_l (by kernel_rfl) (k_wk (fro (hN4_22 b285 r125 r85 H)) [0, 1, 2, 4, 7, 10, 11, 12] [0] 1 [0, 0, 0] 0 rfl rfl rfl)
  have hN4_26 : ∀ (b205 : Nat), ∀ (b245 : Nat), ∀ (b285 : Nat), ∀ (r85 : (Arr UInt32 64)), ((sha_constants ).bind fun r125 => jn (fun (x486 : Arr UInt32 8) => jn (fun (x489 : Arr UInt32 8) => some x489) fun J488 => sha_mix_l0 x486 J488 Fuel (0, a0_h)) fun J485 => sha_mix_l1 r85 r125 J485 Fuel (0, a0_h)) = some r → R (Sl E8 A1 c2 a1_b :: D0) (At b205 0 ((Arr.zero 0 64 : Arr UInt32 64).l.flatMap E32) :: At b245 0 ((Arr.zero 0 64 : Arr UInt32 64).l.flatMap E32) :: At b285 0 ((Arr.zero 0 8 : Arr UInt32 8).l.flatMap E32) :: At b3 0 (a0_h.l.flatMap E32) :: At b4 0 ((Arr.zero 0 8 : Arr UInt32 8).l.flatMap E32) :: G0) [(0, (.agg (a0_h.l.flatMap E32).toArray)), (1, (.slice A1 a1_b.length c2)), (2, (.pointer (some ⟨b3, 0, none⟩))), (4, (.pointer (some ⟨b4, 0, none⟩))), (5, (.pointer (some ⟨b205, 0, none⟩))), (6, (.pointer (some ⟨b245, 0, none⟩))), (7, (.pointer (some ⟨b285, 0, none⟩))), (10, (.slice A1 a1_b.length c2)), (11, (.agg (r85.l.flatMap E32).toArray)), (13, (.agg (a0_h.l.flatMap E32).toArray))] 4 #[true, true, false, true, true, true, true, false, false, false] := by
    intro b205 b245 b285 r85 H
    refine to ?_
    refine acs [2] rfl (by kernel_rfl) sl_nil ⟨?_, trivial⟩
    · obtain ⟨r125, Hc126, H⟩ := bind_some' H
      refine k_call (c_sha_constants  r125 Hc126) Tryd.call112 rfl rfl rfl [] [] rfl rfl (g0 rfl) rfl rfl ?_
      rintro _ _ _ ⟨rfl, rfl, rfl⟩
      dsimp only [List.cons_append, List.nil_append]
      exact wa_l (by kernel_rfl) (k_wk (fro (hN4_6 b205 b245 b285 r125 r85 H)) [0, 1, 2, 4, 5, 6, 7, 10, 11, 12, 13] [0] 1 [0, 0, 0, 0, 0] 0 rfl rfl rfl)
  have hN4_25 : ∀ (b205 : Nat), ∀ (b245 : Nat), ∀ (r85 : (Arr UInt32 64)), ((sha_constants ).bind fun r125 => jn (fun (x486 : Arr UInt32 8) => jn (fun (x489 : Arr UInt32 8) => some x489) fun J488 => sha_mix_l0 x486 J488 Fuel (0, a0_h)) fun J485 => sha_mix_l1 r85 r125 J485 Fuel (0, a0_h)) = some r → R (Sl E8 A1 c2 a1_b :: D0) (At b205 0 ((Arr.zero 0 64 : Arr UInt32 64).l.flatMap E32) :: At b245 0 ((Arr.zero 0 64 : Arr UInt32 64).l.flatMap E32) :: At b3 0 (a0_h.l.flatMap E32) :: At b4 0 ((Arr.zero 0 8 : Arr UInt32 8).l.flatMap E32) :: G0) [(0, (.agg (a0_h.l.flatMap E32).toArray)), (1, (.slice A1 a1_b.length c2)), (2, (.pointer (some ⟨b3, 0, none⟩))), (4, (.pointer (some ⟨b4, 0, none⟩))), (5, (.pointer (some ⟨b205, 0, none⟩))), (6, (.pointer (some ⟨b245, 0, none⟩))), (10, (.slice A1 a1_b.length c2)), (11, (.agg (r85.l.flatMap E32).toArray)), (13, (.agg (a0_h.l.flatMap E32).toArray))] 5 #[true, true, false, true, true, true, false, false, false, false] := by
    intro b205 b245 r85 H
    refine to ?_
    refine acs [2, 6] rfl (by kernel_rfl) sl_nil ⟨?_, ?_, trivial⟩
    · obtain ⟨r125, Hc126, H⟩ := bind_some' H
      refine k_call (c_sha_constants  r125 Hc126) Tryd.call112 rfl rfl rfl [] [] rfl rfl (g0 rfl) rfl rfl ?_
      rintro _ _ _ ⟨rfl, rfl, rfl⟩
      dsimp only [List.cons_append, List.nil_append]
      exact wa_l (by kernel_rfl) (k_wk (fro (hN4_5 b205 b245 r125 r85 H)) [0, 1, 2, 4, 5, 6, 10, 11, 12, 13] [0] 1 [0, 0, 0, 0] 0 rfl rfl rfl)
    · refine k_alloc rfl rfl Tryd.zeroValue144 (cs := (Arr.zero 0 8 : Arr UInt32 8).l.flatMap E32) rfl (g0 rfl) rfl rfl ?_
      intro b285
      exact wa_l (by kernel_rfl) (k_wk (fro (hN4_26 b205 b245 b285 r85 H)) [0, 1, 2, 4, 5, 6, 7, 10, 11, 13] [0] 1 [1, 1, 0, 0, 0] 0 rfl rfl rfl)
  have hN4_27 : ∀ (b205 : Nat), ∀ (b285 : Nat), ∀ (r85 : (Arr UInt32 64)), ((sha_constants ).bind fun r125 => jn (fun (x486 : Arr UInt32 8) => jn (fun (x489 : Arr UInt32 8) => some x489) fun J488 => sha_mix_l0 x486 J488 Fuel (0, a0_h)) fun J485 => sha_mix_l1 r85 r125 J485 Fuel (0, a0_h)) = some r → R (Sl E8 A1 c2 a1_b :: D0) (At b205 0 ((Arr.zero 0 64 : Arr UInt32 64).l.flatMap E32) :: At b285 0 ((Arr.zero 0 8 : Arr UInt32 8).l.flatMap E32) :: At b3 0 (a0_h.l.flatMap E32) :: At b4 0 ((Arr.zero 0 8 : Arr UInt32 8).l.flatMap E32) :: G0) [(0, (.agg (a0_h.l.flatMap E32).toArray)), (1, (.slice A1 a1_b.length c2)), (2, (.pointer (some ⟨b3, 0, none⟩))), (4, (.pointer (some ⟨b4, 0, none⟩))), (5, (.pointer (some ⟨b205, 0, none⟩))), (7, (.pointer (some ⟨b285, 0, none⟩))), (10, (.slice A1 a1_b.length c2)), (11, (.agg (r85.l.flatMap E32).toArray)), (13, (.agg (a0_h.l.flatMap E32).toArray))] 5 #[true, true, false, true, true, false, true, false, false, false] := by
    intro b205 b285 r85 H
    refine to ?_
    refine acs [2, 5] rfl (by kernel_rfl) sl_nil ⟨?_, ?_, trivial⟩
    · obtain ⟨r125, Hc126, H⟩ := bind_some' H
      refine k_call (c_sha_constants  r125 Hc126) Tryd.call112 rfl rfl rfl [] [] rfl rfl (g0 rfl) rfl rfl ?_
      rintro _ _ _ ⟨rfl, rfl, rfl⟩
      dsimp only [List.cons_append, List.nil_append]
      exact wa_l (by kernel_rfl) (k_wk (fro (hN4_10 b205 b285 r125 r85 H)) [0, 1, 2, 4, 5, 7, 10, 11, 12, 13] [0] 1 [0, 0, 0, 0] 0 rfl rfl rfl)
    · refine k_alloc rfl rfl Tryd.zeroValue172 (cs := (Arr.zero 0 64 : Arr UInt32 64).l.flatMap E32) rfl (g0 rfl) rfl rfl ?_
      intro b245
      exact wa_l (by kernel_rfl) (k_wk (fro (hN4_26 b205 b245 b285 r85 H)) [0, 1, 2, 4, 5, 6, 7, 10, 11, 13] [0] 1 [1, 0, 0, 0, 0] 0 rfl rfl rfl)
  have hN4_24 : ∀ (b205 : Nat), ∀ (r85 : (Arr UInt32 64)), ((sha_constants ).bind fun r125 => jn (fun (x486 : Arr UInt32 8) => jn (fun (x489 : Arr UInt32 8) => some x489) fun J488 => sha_mix_l0 x486 J488 Fuel (0, a0_h)) fun J485 => sha_mix_l1 r85 r125 J485 Fuel (0, a0_h)) = some r → R (Sl E8 A1 c2 a1_b :: D0) (At b205 0 ((Arr.zero 0 64 : Arr UInt32 64).l.flatMap E32) :: At b3 0 (a0_h.l.flatMap E32) :: At b4 0 ((Arr.zero 0 8 : Arr UInt32 8).l.flatMap E32) :: G0) [(0, (.agg (a0_h.l.flatMap E32).toArray)), (1, (.slice A1 a1_b.length c2)), (2, (.pointer (some ⟨b3, 0, none⟩))), (4, (.pointer (some ⟨b4, 0, none⟩))), (5, (.pointer (some ⟨b205, 0, none⟩))), (10, (.slice A1 a1_b.length c2)), (11, (.agg (r85.l.flatMap E32).toArray)), (13, (.agg (a0_h.l.flatMap E32).toArray))] 6 #[true, true, false, true, true, false, false, false, false, false] := by
    intro b205 r85 H
    refine to ?_
    refine acs [2, 5, 6] rfl (by kernel_rfl) sl_nil ⟨?_, ?_, ?_, trivial⟩
    · obtain ⟨r125, Hc126, H⟩ := bind_some' H
      refine k_call (c_sha_constants  r125 Hc126) Tryd.call112 rfl rfl rfl [] [] rfl rfl (g0 rfl) rfl rfl ?_
      rintro _ _ _ ⟨rfl, rfl, rfl⟩
      dsimp only [List.cons_append, List.nil_append]
      exact wa_l (by kernel_rfl) (k_wk (fro (hN4_4 b205 r125 r85 H)) [0, 1, 2, 4, 5, 10, 11, 12, 13] [0] 1 [0, 0, 0] 0 rfl rfl rfl)
    · refine k_alloc rfl rfl Tryd.zeroValue172 (cs := (Arr.zero 0 64 : Arr UInt32 64).l.flatMap E32) rfl (g0 rfl) rfl rfl ?_
      intro b245
      exact wa_l (by kernel_rfl) (k_wk (fro (hN4_25 b205 b245 r85 H)) [0, 1, 2, 4, 5, 6, 10, 11, 13] [0] 1 [1, 0, 0, 0] 0 rfl rfl rfl)
    · refine k_alloc rfl rfl Tryd.zeroValue144 (cs := (Arr.zero 0 8 : Arr UInt32 8).l.flatMap E32) rfl (g0 rfl) rfl rfl ?_
      intro b285
      exact wa_l (by kernel_rfl) (k_wk (fro (hN4_27 b205 b285 r85 H)) [0, 1, 2, 4, 5, 7, 10, 11, 13] [0] 1 [1, 0, 0, 0] 0 rfl rfl rfl)
  have hN4_29 : ∀ (b245 : Nat), ∀ (b285 : Nat), ∀ (r85 : (Arr UInt32 64)), ((sha_constants ).bind fun r125 => jn (fun (x486 : Arr UInt32 8) => jn (fun (x489 : Arr UInt32 8) => some x489) fun J488 => sha_mix_l0 x486 J488 Fuel (0, a0_h)) fun J485 => sha_mix_l1 r85 r125 J485 Fuel (0, a0_h)) = some r → R (Sl E8 A1 c2 a1_b :: D0) (At b245 0 ((Arr.zero 0 64 : Arr UInt32 64).l.flatMap E32) :: At b285 0 ((Arr.zero 0 8 : Arr UInt32 8).l.flatMap E32) :: At b3 0 (a0_h.l.flatMap E32) :: At b4 0 ((Arr.zero 0 8 : Arr UInt32 8).l.flatMap E32) :: G0) [(0, (.agg (a0_h.l.flatMap E32).toArray)), (1, (.slice A1 a1_b.length c2)), (2, (.pointer (some ⟨b3, 0, none⟩))), (4, (.pointer (some ⟨b4, 0, none⟩))), (6, (.pointer (some ⟨b245, 0, none⟩))), (7, (.pointer (some ⟨b285, 0, none⟩))), (10, (.slice A1 a1_b.length c2)), (11, (.agg (r85.l.flatMap E32).toArray)), (13, (.agg (a0_h.l.flatMap E32).toArray))] 5 #[true, true, false, true, false, true, true, false, false, false] := by
    intro b245 b285 r85 H
    refine to ?_
    refine acs [2, 4] rfl (by kernel_rfl) sl_nil ⟨?_, ?_, trivial⟩
    · obtain ⟨r125, Hc126, H⟩ := bind_some' H
      refine k_call (c_sha_constants  r125 Hc126) Tryd.call112 rfl rfl rfl [] [] rfl rfl (g0 rfl) rfl rfl ?_
      rintro _ _ _ ⟨rfl, rfl, rfl⟩
      dsimp only [List.cons_append, List.nil_append]
      exact wa_l (by kernel_rfl) (k_wk (fro (hN4_12 b245 b285 r125 r85 H)) [0, 1, 2, 4, 6, 7, 10, 11, 12, 13] [0] 1 [0, 0, 0, 0] 0 rfl rfl rfl)
    · refine k_alloc rfl rfl Tryd.zeroValue172 (cs := (Arr.zero 0 64 : Arr UInt32 64).l.flatMap E32) rfl (g0 rfl) rfl rfl ?_
      intro b205
      exact wa_l (by kernel_rfl) (k_wk (fro (hN4_26 b205 b245 b285 r85 H)) [0, 1, 2, 4, 5, 6, 7, 10, 11, 13] [0] 1 [0, 0, 0, 0, 0] 0 rfl rfl rfl)
  have hN4_28 : ∀ (b245 : Nat), ∀ (r85 : (Arr UInt32 64)), ((sha_constants ).bind fun r125 => jn (fun (x486 : Arr UInt32 8) => jn (fun (x489 : Arr UInt32 8) => some x489) fun J488 => sha_mix_l0 x486 J488 Fuel (0, a0_h)) fun J485 => sha_mix_l1 r85 r125 J485 Fuel (0, a0_h)) = some r → R (Sl E8 A1 c2 a1_b :: D0) (At b245 0 ((Arr.zero 0 64 : Arr UInt32 64).l.flatMap E32) :: At b3 0 (a0_h.l.flatMap E32) :: At b4 0 ((Arr.zero 0 8 : Arr UInt32 8).l.flatMap E32) :: G0) [(0, (.agg (a0_h.l.flatMap E32).toArray)), (1, (.slice A1 a1_b.length c2)), (2, (.pointer (some ⟨b3, 0, none⟩))), (4, (.pointer (some ⟨b4, 0, none⟩))), (6, (.pointer (some ⟨b245, 0, none⟩))), (10, (.slice A1 a1_b.length c2)), (11, (.agg (r85.l.flatMap E32).toArray)), (13, (.agg (a0_h.l.flatMap E32).toArray))] 6 #[true, true, false, true, false, true, false, false, false, false] := by
    intro b245 r85 H
    refine to ?_
    refine acs [2, 4, 6] rfl (by kernel_rfl) sl_nil ⟨?_, ?_, ?_, trivial⟩
    · obtain ⟨r125, Hc126, H⟩ := bind_some' H
      refine k_call (c_sha_constants  r125 Hc126) Tryd.call112 rfl rfl rfl [] [] rfl rfl (g0 rfl) rfl rfl ?_
      rintro _ _ _ ⟨rfl, rfl, rfl⟩
      dsimp only [List.cons_append, List.nil_append]
      exact wa_l (by kernel_rfl) (k_wk (fro (hN4_11 b245 r125 r85 H)) [0, 1, 2, 4, 6, 10, 11, 12, 13] [0] 1 [0, 0, 0] 0 rfl rfl rfl)
    · refine k_alloc rfl rfl Tryd.zeroValue172 (cs := (Arr.zero 0 64 : Arr UInt32 64).l.flatMap E32) rfl (g0 rfl) rfl rfl ?_
      intro b205
      exact wa_l (by kernel_rfl) (k_wk (fro (hN4_25 b205 b245 r85 H)) [0, 1, 2, 4, 5, 6, 10, 11, 13] [0] 1 [0, 0, 0, 0] 0 rfl rfl rfl)
    · refine k_alloc rfl rfl Tryd.zeroValue144 (cs := (Arr.zero 0 8 : Arr UInt32 8).l.flatMap E32) rfl (g0 rfl) rfl rfl ?_
      intro b285
      exact wa_l (by kernel_rfl) (k_wk (fro (hN4_29 b245 b285 r85 H)) [0, 1, 2, 4, 6, 7, 10, 11, 13] [0] 1 [1, 0, 0, 0] 0 rfl rfl rfl)
  have hN4_30 : ∀ (b285 : Nat), ∀ (r85 : (Arr UInt32 64)), ((sha_constants ).bind fun r125 => jn (fun (x486 : Arr UInt32 8) => jn (fun (x489 : Arr UInt32 8) => some x489) fun J488 => sha_mix_l0 x486 J488 Fuel (0, a0_h)) fun J485 => sha_mix_l1 r85 r125 J485 Fuel (0, a0_h)) = some r → R (Sl E8 A1 c2 a1_b :: D0) (At b285 0 ((Arr.zero 0 8 : Arr UInt32 8).l.flatMap E32) :: At b3 0 (a0_h.l.flatMap E32) :: At b4 0 ((Arr.zero 0 8 : Arr UInt32 8).l.flatMap E32) :: G0) [(0, (.agg (a0_h.l.flatMap E32).toArray)), (1, (.slice A1 a1_b.length c2)), (2, (.pointer (some ⟨b3, 0, none⟩))), (4, (.pointer (some ⟨b4, 0, none⟩))), (7, (.pointer (some ⟨b285, 0, none⟩))), (10, (.slice A1 a1_b.length c2)), (11, (.agg (r85.l.flatMap E32).toArray)), (13, (.agg (a0_h.l.flatMap E32).toArray))] 6 #[true, true, false, true, false, false, true, false, false, false] := by
    intro b285 r85 H
    refine to ?_
    refine acs [2, 4, 5] rfl (by kernel_rfl) sl_nil ⟨?_, ?_, ?_, trivial⟩
    · obtain ⟨r125, Hc126, H⟩ := bind_some' H
      refine k_call (c_sha_constants  r125 Hc126) Tryd.call112 rfl rfl rfl [] [] rfl rfl (g0 rfl) rfl rfl ?_
      rintro _ _ _ ⟨rfl, rfl, rfl⟩
      dsimp only [List.cons_append, List.nil_append]
      exact wa_l (by kernel_rfl) (k_wk (fro (hN4_13 b285 r125 r85 H)) [0, 1, 2, 4, 7, 10, 11, 12, 13] [0] 1 [0, 0, 0] 0 rfl rfl rfl)
    · refine k_alloc rfl rfl Tryd.zeroValue172 (cs := (Arr.zero 0 64 : Arr UInt32 64).l.flatMap E32) rfl (g0 rfl) rfl rfl ?_
      intro b205
      exact wa_l (by kernel_rfl) (k_wk (fro (hN4_27 b205 b285 r85 H)) [0, 1, 2, 4, 5, 7, 10, 11, 13] [0] 1 [0, 0, 0, 0] 0 rfl rfl rfl)
    · refine k_alloc rfl rfl Tryd.zeroValue172 (cs := (Arr.zero 0 64 : Arr UInt32 64).l.flatMap E32) rfl (g0 rfl) rfl rfl ?_
      intro b245
      exact wa_l (by kernel_rfl) (k_wk (fro (hN4_29 b245 b285 r85 H)) [0, 1, 2, 4, 6, 7, 10, 11, 13] [0] 1 [0, 0, 0, 0] 0 rfl rfl rfl)
  have hN4_23 : ∀ (r85 : (Arr UInt32 64)), ((sha_constants ).bind fun r125 => jn (fun (x486 : Arr UInt32 8) => jn (fun (x489 : Arr UInt32 8) => some x489) fun J488 => sha_mix_l0 x486 J488 Fuel (0, a0_h)) fun J485 => sha_mix_l1 r85 r125 J485 Fuel (0, a0_h)) = some r → R (Sl E8 A1 c2 a1_b :: D0) (At b3 0 (a0_h.l.flatMap E32) :: At b4 0 ((Arr.zero 0 8 : Arr UInt32 8).l.flatMap E32) :: G0) [(0, (.agg (a0_h.l.flatMap E32).toArray)), (1, (.slice A1 a1_b.length c2)), (2, (.pointer (some ⟨b3, 0, none⟩))), (4, (.pointer (some ⟨b4, 0, none⟩))), (10, (.slice A1 a1_b.length c2)), (11, (.agg (r85.l.flatMap E32).toArray)), (13, (.agg (a0_h.l.flatMap E32).toArray))] 7 #[true, true, false, true, false, false, false, false, false, false] := by
    intro r85 H
    refine to ?_
    refine acs [2, 4, 5, 6] rfl (by kernel_rfl) sl_nil ⟨?_, ?_, ?_, ?_, trivial⟩
    · obtain ⟨r125, Hc126, H⟩ := bind_some' H
      refine k_call (c_sha_constants  r125 Hc126) Tryd.call112 rfl rfl rfl [] [] rfl rfl (g0 rfl) rfl rfl ?_
      rintro _ _ _ ⟨rfl, rfl, rfl⟩
      dsimp only [List.cons_append, List.nil_append]
      exact wa_l (by kernel_rfl) (k_wk (fro (hN4_3 r125 r85 H)) [0, 1, 2, 4, 10, 11, 12, 13] [0] 1 [0, 0] 0 rfl rfl rfl)
    · refine k_alloc rfl rfl Tryd.zeroValue172 (cs := (Arr.zero 0 64 : Arr UInt32 64).l.flatMap E32) rfl (g0 rfl) rfl rfl ?_
      intro b205
      exact wa_l (by kernel_rfl) (k_wk (fro (hN4_24 b205 r85 H)) [0, 1, 2, 4, 5, 10, 11, 13] [0] 1 [0, 0, 0] 0 rfl rfl rfl)
    · refine k_alloc rfl rfl Tryd.zeroValue172 (cs := (Arr.zero 0 64 : Arr UInt32 64).l.flatMap E32) rfl (g0 rfl) rfl rfl ?_
      intro b245
      exact wa_l (by kernel_rfl) (k_wk (fro (hN4_28 b245 r85 H)) [0, 1, 2, 4, 6, 10, 11, 13] [0] 1 [0, 0, 0] 0 rfl rfl rfl)
    · refine k_alloc rfl rfl Tryd.zeroValue144 (cs := (Arr.zero 0 8 : Arr UInt32 8).l.flatMap E32) rfl (g0 rfl) rfl rfl ?_
      intro b285
      exact wa_l (by kernel_rfl) (k_wk (fro (hN4_30 b285 r85 H)) [0, 1, 2, 4, 7, 10, 11, 13] [0] 1 [0, 0, 0] 0 rfl rfl rfl)
  have hN4_33 : ∀ (b205 : Nat), ∀ (b245 : Nat), ∀ (b285 : Nat), ∀ (r85 : (Arr UInt32 64)), ((sha_constants ).bind fun r125 => jn (fun (x486 : Arr UInt32 8) => jn (fun (x489 : Arr UInt32 8) => some x489) fun J488 => sha_mix_l0 x486 J488 Fuel (0, a0_h)) fun J485 => sha_mix_l1 r85 r125 J485 Fuel (0, a0_h)) = some r → R (Sl E8 A1 c2 a1_b :: D0) (At b205 0 ((Arr.zero 0 64 : Arr UInt32 64).l.flatMap E32) :: At b245 0 ((Arr.zero 0 64 : Arr UInt32 64).l.flatMap E32) :: At b285 0 ((Arr.zero 0 8 : Arr UInt32 8).l.flatMap E32) :: At b3 0 (a0_h.l.flatMap E32) :: At b4 0 ((Arr.zero 0 8 : Arr UInt32 8).l.flatMap E32) :: G0) [(0, (.agg (a0_h.l.flatMap E32).toArray)), (1, (.slice A1 a1_b.length c2)), (2, (.pointer (some ⟨b3, 0, none⟩))), (4, (.pointer (some ⟨b4, 0, none⟩))), (5, (.pointer (some ⟨b205, 0, none⟩))), (6, (.pointer (some ⟨b245, 0, none⟩))), (7, (.pointer (some ⟨b285, 0, none⟩))), (10, (.slice A1 a1_b.length c2)), (11, (.agg (r85.l.flatMap E32).toArray))] 5 #[true, true, false, false, true, true, true, false, false, false] := by
    intro b205 b245 b285 r85 H
    refine to ?_
    refine acs [2, 3] rfl (by kernel_rfl) sl_nil ⟨?_, ?_, trivial⟩
    · obtain ⟨r125, Hc126, H⟩ := bind_some' H
      refine k_call (c_sha_constants  r125 Hc126) Tryd.call112 rfl rfl rfl [] [] rfl rfl (g0 rfl) rfl rfl ?_
      rintro _ _ _ ⟨rfl, rfl, rfl⟩
      dsimp only [List.cons_append, List.nil_append]
      exact wa_l (by kernel_rfl) (k_wk (fro (hN4_16 b205 b245 b285 r125 r85 H)) [0, 1, 2, 4, 5, 6, 7, 10, 11, 12] [0] 1 [0, 0, 0, 0, 0] 0 rfl rfl rfl)
    · refine k_ld (hG 3 rfl) rfl (ev_ldN (j := 0) rfl rfl Tryd.isAgg144 (sz (arr_len E32_len _ rfl) Tryd.sizeOf144) (sub_all _) rfl) (g0 rfl) rfl rfl ?_
      exact wa_l (by kernel_rfl) (k_wk (fro (hN4_26 b205 b245 b285 r85 H)) [0, 1, 2, 4, 5, 6, 7, 10, 11, 13] [0] 1 [0, 0, 0, 0, 0] 0 rfl rfl rfl)
  have hN4_32 : ∀ (b205 : Nat), ∀ (b245 : Nat), ∀ (r85 : (Arr UInt32 64)), ((sha_constants ).bind fun r125 => jn (fun (x486 : Arr UInt32 8) => jn (fun (x489 : Arr UInt32 8) => some x489) fun J488 => sha_mix_l0 x486 J488 Fuel (0, a0_h)) fun J485 => sha_mix_l1 r85 r125 J485 Fuel (0, a0_h)) = some r → R (Sl E8 A1 c2 a1_b :: D0) (At b205 0 ((Arr.zero 0 64 : Arr UInt32 64).l.flatMap E32) :: At b245 0 ((Arr.zero 0 64 : Arr UInt32 64).l.flatMap E32) :: At b3 0 (a0_h.l.flatMap E32) :: At b4 0 ((Arr.zero 0 8 : Arr UInt32 8).l.flatMap E32) :: G0) [(0, (.agg (a0_h.l.flatMap E32).toArray)), (1, (.slice A1 a1_b.length c2)), (2, (.pointer (some ⟨b3, 0, none⟩))), (4, (.pointer (some ⟨b4, 0, none⟩))), (5, (.pointer (some ⟨b205, 0, none⟩))), (6, (.pointer (some ⟨b245, 0, none⟩))), (10, (.slice A1 a1_b.length c2)), (11, (.agg (r85.l.flatMap E32).toArray))] 6 #[true, true, false, false, true, true, false, false, false, false] := by
    intro b205 b245 r85 H
    refine to ?_
    refine acs [2, 3, 6] rfl (by kernel_rfl) sl_nil ⟨?_, ?_, ?_, trivial⟩
    · obtain ⟨r125, Hc126, H⟩ := bind_some' H
      refine k_call (c_sha_constants  r125 Hc126) Tryd.call112 rfl rfl rfl [] [] rfl rfl (g0 rfl) rfl rfl ?_
      rintro _ _ _ ⟨rfl, rfl, rfl⟩
      dsimp only [List.cons_append, List.nil_append]
      exact wa_l (by kernel_rfl) (k_wk (fro (hN4_15 b205 b245 r125 r85 H)) [0, 1, 2, 4, 5, 6, 10, 11, 12] [0] 1 [0, 0, 0, 0] 0 rfl rfl rfl)
    · refine k_ld (hG 2 rfl) rfl (ev_ldN (j := 0) rfl rfl Tryd.isAgg144 (sz (arr_len E32_len _ rfl) Tryd.sizeOf144) (sub_all _) rfl) (g0 rfl) rfl rfl ?_
      exact wa_l (by kernel_rfl) (k_wk (fro (hN4_25 b205 b245 r85 H)) [0, 1, 2, 4, 5, 6, 10, 11, 13] [0] 1 [0, 0, 0, 0] 0 rfl rfl rfl)
    · refine k_alloc rfl rfl Tryd.zeroValue144 (cs := (Arr.zero 0 8 : Arr UInt32 8).l.flatMap E32) rfl (g0 rfl) rfl rfl ?_
      intro b285
      exact wa_l (by kernel_rfl) (k_wk (fro (hN4_33 b205 b245 b285 r85 H)) [0, 1, 2, 4, 5, 6, 7, 10, 11] [0] 1 [1, 1, 0, 0, 0] 0 rfl rfl rfl)
  have hN4_34 : ∀ (b205 : Nat), ∀ (b285 : Nat), ∀ (r85 : (Arr UInt32 64)), ((sha_constants ).bind fun r125 => jn (fun (x486 : Arr UInt32 8) => jn (fun (x489 : Arr UInt32 8) => some x489) fun J488 => sha_mix_l0 x486 J488 Fuel (0, a0_h)) fun J485 => sha_mix_l1 r85 r125 J485 Fuel (0, a0_h)) = some r → R (Sl E8 A1 c2 a1_b :: D0) (At b205 0 ((Arr.zero 0 64 : Arr UInt32 64).l.flatMap E32) :: At b285 0 ((Arr.zero 0 8 : Arr UInt32 8).l.flatMap E32) :: At b3 0 (a0_h.l.flatMap E32) :: At b4 0 ((Arr.zero 0 8 : Arr UInt32 8).l.flatMap E32) :: G0) [(0, (.agg (a0_h.l.flatMap E32).toArray)), (1, (.slice A1 a1_b.length c2)), (2, (.pointer (some ⟨b3, 0, none⟩))), (4, (.pointer (some ⟨b4, 0, none⟩))), (5, (.pointer (some ⟨b205, 0, none⟩))), (7, (.pointer (some ⟨b285, 0, none⟩))), (10, (.slice A1 a1_b.length c2)), (11, (.agg (r85.l.flatMap E32).toArray))] 6 #[true, true, false, false, true, false, true, false, false, false] := by
    intro b205 b285 r85 H
    refine to ?_
    refine acs [2, 3, 5] rfl (by kernel_rfl) sl_nil ⟨?_, ?_, ?_, trivial⟩
    · obtain ⟨r125, Hc126, H⟩ := bind_some' H
      refine k_call (c_sha_constants  r125 Hc126) Tryd.call112 rfl rfl rfl [] [] rfl rfl (g0 rfl) rfl rfl ?_
      rintro _ _ _ ⟨rfl, rfl, rfl⟩
      dsimp only [List.cons_append, List.nil_append]
      exact wa_l (by kernel_rfl) (k_wk (fro (hN4_19 b205 b285 r125 r85 H)) [0, 1, 2, 4, 5, 7, 10, 11, 12] [0] 1 [0, 0, 0, 0] 0 rfl rfl rfl)
    · refine k_ld (hG 2 rfl) rfl (ev_ldN (j := 0) rfl rfl Tryd.isAgg144 (sz (arr_len E32_len _ rfl) Tryd.sizeOf144) (sub_all _) rfl) (g0 rfl) rfl rfl ?_
      exact wa_l (by kernel_rfl) (k_wk (fro (hN4_27 b205 b285 r85 H)) [0, 1, 2, 4, 5, 7, 10, 11, 13] [0] 1 [0, 0, 0, 0] 0 rfl rfl rfl)
    · refine k_alloc rfl rfl Tryd.zeroValue172 (cs := (Arr.zero 0 64 : Arr UInt32 64).l.flatMap E32) rfl (g0 rfl) rfl rfl ?_
      intro b245
      exact wa_l (by kernel_rfl) (k_wk (fro (hN4_33 b205 b245 b285 r85 H)) [0, 1, 2, 4, 5, 6, 7, 10, 11] [0] 1 [1, 0, 0, 0, 0] 0 rfl rfl rfl)
  have hN4_31 : ∀ (b205 : Nat), ∀ (r85 : (Arr UInt32 64)), ((sha_constants ).bind fun r125 => jn (fun (x486 : Arr UInt32 8) => jn (fun (x489 : Arr UInt32 8) => some x489) fun J488 => sha_mix_l0 x486 J488 Fuel (0, a0_h)) fun J485 => sha_mix_l1 r85 r125 J485 Fuel (0, a0_h)) = some r → R (Sl E8 A1 c2 a1_b :: D0) (At b205 0 ((Arr.zero 0 64 : Arr UInt32 64).l.flatMap E32) :: At b3 0 (a0_h.l.flatMap E32) :: At b4 0 ((Arr.zero 0 8 : Arr UInt32 8).l.flatMap E32) :: G0) [(0, (.agg (a0_h.l.flatMap E32).toArray)), (1, (.slice A1 a1_b.length c2)), (2, (.pointer (some ⟨b3, 0, none⟩))), (4, (.pointer (some ⟨b4, 0, none⟩))), (5, (.pointer (some ⟨b205, 0, none⟩))), (10, (.slice A1 a1_b.length c2)), (11, (.agg (r85.l.flatMap E32).toArray))] 7 #[true, true, false, false, true, false, false, false, false, false] := by
    intro b205 r85 H
    refine to ?_
    refine acs [2, 3, 5, 6] rfl (by kernel_rfl) sl_nil ⟨?_, ?_, ?_, ?_, trivial⟩
    · obtain ⟨r125, Hc126, H⟩ := bind_some' H
      refine k_call (c_sha_constants  r125 Hc126) Tryd.call112 rfl rfl rfl [] [] rfl rfl (g0 rfl) rfl rfl ?_
      rintro _ _ _ ⟨rfl, rfl, rfl⟩
      dsimp only [List.cons_append, List.nil_append]
      exact wa_l (by kernel_rfl) (k_wk (fro (hN4_14 b205 r125 r85 H)) [0, 1, 2, 4, 5, 10, 11, 12] [0] 1 [0, 0, 0] 0 rfl rfl rfl)
    · refine k_ld (hG 1 rfl) rfl (ev_ldN (j := 0) rfl rfl Tryd.isAgg144 (sz (arr_len E32_len _ rfl) Tryd.sizeOf144) (sub_all _) rfl) (g0 rfl) rfl rfl ?_
      exact wa_l (by kernel_rfl) (k_wk (fro (hN4_24 b205 r85 H)) [0, 1, 2, 4, 5, 10, 11, 13] [0] 1 [0, 0, 0] 0 rfl rfl rfl)
    · refine k_alloc rfl rfl Tryd.zeroValue172 (cs := (Arr.zero 0 64 : Arr UInt32 64).l.flatMap E32) rfl (g0 rfl) rfl rfl ?_
      intro b245
      exact wa_l (by kernel_rfl) (k_wk (fro (hN4_32 b205 b245 r85 H)) [0, 1, 2, 4, 5, 6, 10, 11] [0] 1 [1, 0, 0, 0] 0 rfl rfl rfl)
    · refine k_alloc rfl rfl Tryd.zeroValue144 (cs := (Arr.zero 0 8 : Arr UInt32 8).l.flatMap E32) rfl (g0 rfl) rfl rfl ?_
      intro b285
      exact wa_l (by kernel_rfl) (k_wk (fro (hN4_34 b205 b285 r85 H)) [0, 1, 2, 4, 5, 7, 10, 11] [0] 1 [1, 0, 0, 0] 0 rfl rfl rfl)
  have hN4_36 : ∀ (b245 : Nat), ∀ (b285 : Nat), ∀ (r85 : (Arr UInt32 64)), ((sha_constants ).bind fun r125 => jn (fun (x486 : Arr UInt32 8) => jn (fun (x489 : Arr UInt32 8) => some x489) fun J488 => sha_mix_l0 x486 J488 Fuel (0, a0_h)) fun J485 => sha_mix_l1 r85 r125 J485 Fuel (0, a0_h)) = some r → R (Sl E8 A1 c2 a1_b :: D0) (At b245 0 ((Arr.zero 0 64 : Arr UInt32 64).l.flatMap E32) :: At b285 0 ((Arr.zero 0 8 : Arr UInt32 8).l.flatMap E32) :: At b3 0 (a0_h.l.flatMap E32) :: At b4 0 ((Arr.zero 0 8 : Arr UInt32 8).l.flatMap E32) :: G0) [(0, (.agg (a0_h.l.flatMap E32).toArray)), (1, (.slice A1 a1_b.length c2)), (2, (.pointer (some ⟨b3, 0, none⟩))), (4, (.pointer (some ⟨b4, 0, none⟩))), (6, (.pointer (some ⟨b245, 0, none⟩))), (7, (.pointer (some ⟨b285, 0, none⟩))), (10, (.slice A1 a1_b.length c2)), (11, (.agg (r85.l.flatMap E32).toArray))] 6 #[true, true, false, false, false, true, true, false, false, false] := by
    intro b245 b285 r85 H
    refine to ?_
    refine acs [2, 3, 4] rfl (by kernel_rfl) sl_nil ⟨?_, ?_, ?_, trivial⟩
    · obtain ⟨r125, Hc126, H⟩ := bind_some' H
      refine k_call (c_sha_constants  r125 Hc126) Tryd.call112 rfl rfl rfl [] [] rfl rfl (g0 rfl) rfl rfl ?_
      rintro _ _ _ ⟨rfl, rfl, rfl⟩
      dsimp only [List.cons_append, List.nil_append]
      exact wa_l (by kernel_rfl) (k_wk (fro (hN4_21 b245 b285 r125 r85 H)) [0, 1, 2, 4, 6, 7, 10, 11, 12] [0] 1 [0, 0, 0, 0] 0 rfl rfl rfl)
    · refine k_ld (hG 2 rfl) rfl (ev_ldN (j := 0) rfl rfl Tryd.isAgg144 (sz (arr_len E32_len _ rfl) Tryd.sizeOf144) (sub_all _) rfl) (g0 rfl) rfl rfl ?_
      exact wa_l (by kernel_rfl) (k_wk (fro (hN4_29 b245 b285 r85 H)) [0, 1, 2, 4, 6, 7, 10, 11, 13] [0] 1 [0, 0, 0, 0] 0 rfl rfl rfl)
    · refine k_alloc rfl rfl Tryd.zeroValue172 (cs := (Arr.zero 0 64 : Arr UInt32 64).l.flatMap E32) rfl (g0 rfl) rfl rfl ?_
      intro b205
      exact wa_l (by kernel_rfl) (k_wk (fro (hN4_33 b205 b245 b285 r85 H)) [0, 1, 2, 4, 5, 6, 7, 10, 11] [0] 1 [0, 0, 0, 0, 0] 0 rfl rfl rfl)
  have hN4_35 : ∀ (b245 : Nat), ∀ (r85 : (Arr UInt32 64)), ((sha_constants ).bind fun r125 => jn (fun (x486 : Arr UInt32 8) => jn (fun (x489 : Arr UInt32 8) => some x489) fun J488 => sha_mix_l0 x486 J488 Fuel (0, a0_h)) fun J485 => sha_mix_l1 r85 r125 J485 Fuel (0, a0_h)) = some r → R (Sl E8 A1 c2 a1_b :: D0) (At b245 0 ((Arr.zero 0 64 : Arr UInt32 64).l.flatMap E32) :: At b3 0 (a0_h.l.flatMap E32) :: At b4 0 ((Arr.zero 0 8 : Arr UInt32 8).l.flatMap E32) :: G0) [(0, (.agg (a0_h.l.flatMap E32).toArray)), (1, (.slice A1 a1_b.length c2)), (2, (.pointer (some ⟨b3, 0, none⟩))), (4, (.pointer (some ⟨b4, 0, none⟩))), (6, (.pointer (some ⟨b245, 0, none⟩))), (10, (.slice A1 a1_b.length c2)), (11, (.agg (r85.l.flatMap E32).toArray))] 7 #[true, true, false, false, false, true, false, false, false, false] := by
    intro b245 r85 H
    refine to ?_
    refine acs [2, 3, 4, 6] rfl (by kernel_rfl) sl_nil ⟨?_, ?_, ?_, ?_, trivial⟩
    · obtain ⟨r125, Hc126, H⟩ := bind_some' H
      refine k_call (c_sha_constants  r125 Hc126) Tryd.call112 rfl rfl rfl [] [] rfl rfl (g0 rfl) rfl rfl ?_
      rintro _ _ _ ⟨rfl, rfl, rfl⟩
      dsimp only [List.cons_append, List.nil_append]
      exact wa_l (by kernel_rfl) (k_wk (fro (hN4_20 b245 r125 r85 H)) [0, 1, 2, 4, 6, 10, 11, 12] [0] 1 [0, 0, 0] 0 rfl rfl rfl)
    · refine k_ld (hG 1 rfl) rfl (ev_ldN (j := 0) rfl rfl Tryd.isAgg144 (sz (arr_len E32_len _ rfl) Tryd.sizeOf144) (sub_all _) rfl) (g0 rfl) rfl rfl ?_
      exact wa_l (by kernel_rfl) (k_wk (fro (hN4_28 b245 r85 H)) [0, 1, 2, 4, 6, 10, 11, 13] [0] 1 [0, 0, 0] 0 rfl rfl rfl)
    · refine k_alloc rfl rfl Tryd.zeroValue172 (cs := (Arr.zero 0 64 : Arr UInt32 64).l.flatMap E32) rfl (g0 rfl) rfl rfl ?_
      intro b205
      exact wa_l (by kernel_rfl) (k_wk (fro (hN4_32 b205 b245 r85 H)) [0, 1, 2, 4, 5, 6, 10, 11] [0] 1 [0, 0, 0, 0] 0 rfl rfl rfl)
    · refine k_alloc rfl rfl Tryd.zeroValue144 (cs := (Arr.zero 0 8 : Arr UInt32 8).l.flatMap E32) rfl (g0 rfl) rfl rfl ?_
      intro b285
      exact wa_l (by kernel_rfl) (k_wk (fro (hN4_36 b245 b285 r85 H)) [0, 1, 2, 4, 6, 7, 10, 11] [0] 1 [1, 0, 0, 0] 0 rfl rfl rfl)
  have hN4_37 : ∀ (b285 : Nat), ∀ (r85 : (Arr UInt32 64)), ((sha_constants ).bind fun r125 => jn (fun (x486 : Arr UInt32 8) => jn (fun (x489 : Arr UInt32 8) => some x489) fun J488 => sha_mix_l0 x486 J488 Fuel (0, a0_h)) fun J485 => sha_mix_l1 r85 r125 J485 Fuel (0, a0_h)) = some r → R (Sl E8 A1 c2 a1_b :: D0) (At b285 0 ((Arr.zero 0 8 : Arr UInt32 8).l.flatMap E32) :: At b3 0 (a0_h.l.flatMap E32) :: At b4 0 ((Arr.zero 0 8 : Arr UInt32 8).l.flatMap E32) :: G0) [(0, (.agg (a0_h.l.flatMap E32).toArray)), (1, (.slice A1 a1_b.length c2)), (2, (.pointer (some ⟨b3, 0, none⟩))), (4, (.pointer (some ⟨b4, 0, none⟩))), (7, (.pointer (some ⟨b285, 0, none⟩))), (10, (.slice A1 a1_b.length c2)), (11, (.agg (r85.l.flatMap E32).toArray))] 7 #[true, true, false, false, false, false, true, false, false, false] := by
    intro b285 r85 H
    refine to ?_
    refine acs [2, 3, 4, 5] rfl (by kernel_rfl) sl_nil ⟨?_, ?_, ?_, ?_, trivial⟩
    · obtain ⟨r125, Hc126, H⟩ := bind_some' H
      refine k_call (c_sha_constants  r125 Hc126) Tryd.call112 rfl rfl rfl [] [] rfl rfl (g0 rfl) rfl rfl ?_
      rintro _ _ _ ⟨rfl, rfl, rfl⟩
      dsimp only [List.cons_append, List.nil_append]
      exact wa_l (by kernel_rfl) (k_wk (fro (hN4_22 b285 r125 r85 H)) [0, 1, 2, 4, 7, 10, 11, 12] [0] 1 [0, 0, 0] 0 rfl rfl rfl)
    · refine k_ld (hG 1 rfl) rfl (ev_ldN (j := 0) rfl rfl Tryd.isAgg144 (sz (arr_len E32_len _ rfl) Tryd.sizeOf144) (sub_all _) rfl) (g0 rfl) rfl rfl ?_
      exact wa_l (by kernel_rfl) (k_wk (fro (hN4_30 b285 r85 H)) [0, 1, 2, 4, 7, 10, 11, 13] [0] 1 [0, 0, 0] 0 rfl rfl rfl)
    · refine k_alloc rfl rfl Tryd.zeroValue172 (cs := (Arr.zero 0 64 : Arr UInt32 64).l.flatMap E32) rfl (g0 rfl) rfl rfl ?_
      intro b205
      exact wa_l (by kernel_rfl) (k_wk (fro (hN4_34 b205 b285 r85 H)) [0, 1, 2, 4, 5, 7, 10, 11] [0] 1 [0, 0, 0, 0] 0 rfl rfl rfl)
    · refine k_alloc rfl rfl Tryd.zeroValue172 (cs := (Arr.zero 0 64 : Arr UInt32 64).l.flatMap E32) rfl (g0 rfl) rfl rfl ?_
      intro b245
      exact wa_l (by kernel_rfl) (k_wk (fro (hN4_36 b245 b285 r85 H)) [0, 1, 2, 4, 6, 7, 10, 11] [0] 1 [0, 0, 0, 0] 0 rfl rfl rfl)
  have hN4_1 : ∀ (r85 : (Arr UInt32 64)), ((sha_constants ).bind fun r125 => jn (fun (x486 : Arr UInt32 8) => jn (fun (x489 : Arr UInt32 8) => some x489) fun J488 => sha_mix_l0 x486 J488 Fuel (0, a0_h)) fun J485 => sha_mix_l1 r85 r125 J485 Fuel (0, a0_h)) = some r → R (Sl E8 A1 c2 a1_b :: D0) (At b3 0 (a0_h.l.flatMap E32) :: At b4 0 ((Arr.zero 0 8 : Arr UInt32 8).l.flatMap E32) :: G0) [(0, (.agg (a0_h.l.flatMap E32).toArray)), (1, (.slice A1 a1_b.length c2)), (2, (.pointer (some ⟨b3, 0, none⟩))), (4, (.pointer (some ⟨b4, 0, none⟩))), (10, (.slice A1 a1_b.length c2)), (11, (.agg (r85.l.flatMap E32).toArray))] 8 #[true, true, false, false, false, false, false, false, false, false] := by
    intro r85 H
    refine to ?_
    refine acs [2, 3, 4, 5, 6] rfl (by kernel_rfl) sl_nil ⟨?_, ?_, ?_, ?_, ?_, trivial⟩
    · obtain ⟨r125, Hc126, H⟩ := bind_some' H
      refine k_call (c_sha_constants  r125 Hc126) Tryd.call112 rfl rfl rfl [] [] rfl rfl (g0 rfl) rfl rfl ?_
      rintro _ _ _ ⟨rfl, rfl, rfl⟩
      dsimp only [List.cons_append, List.nil_append]
      exact wa_l (by kernel_rfl) (k_wk (fro (hN4_2 r125 r85 H)) [0, 1, 2, 4, 10, 11, 12] [0] 1 [0, 0] 0 rfl rfl rfl)
    · refine k_ld (hG 0 rfl) rfl (ev_ldN (j := 0) rfl rfl Tryd.isAgg144 (sz (arr_len E32_len _ rfl) Tryd.sizeOf144) (sub_all _) rfl) (g0 rfl) rfl rfl ?_
      exact wa_l (by kernel_rfl) (k_wk (fro (hN4_23 r85 H)) [0, 1, 2, 4, 10, 11, 13] [0] 1 [0, 0] 0 rfl rfl rfl)
    · refine k_alloc rfl rfl Tryd.zeroValue172 (cs := (Arr.zero 0 64 : Arr UInt32 64).l.flatMap E32) rfl (g0 rfl) rfl rfl ?_
      intro b205
      exact wa_l (by kernel_rfl) (k_wk (fro (hN4_31 b205 r85 H)) [0, 1, 2, 4, 5, 10, 11] [0] 1 [0, 0, 0] 0 rfl rfl rfl)
    · refine k_alloc rfl rfl Tryd.zeroValue172 (cs := (Arr.zero 0 64 : Arr UInt32 64).l.flatMap E32) rfl (g0 rfl) rfl rfl ?_
      intro b245
      exact wa_l (by kernel_rfl) (k_wk (fro (hN4_35 b245 r85 H)) [0, 1, 2, 4, 6, 10, 11] [0] 1 [0, 0, 0] 0 rfl rfl rfl)
    · refine k_alloc rfl rfl Tryd.zeroValue144 (cs := (Arr.zero 0 8 : Arr UInt32 8).l.flatMap E32) rfl (g0 rfl) rfl rfl ?_
      intro b285
      exact wa_l (by kernel_rfl) (k_wk (fro (hN4_37 b285 r85 H)) [0, 1, 2, 4, 7, 10, 11] [0] 1 [0, 0, 0] 0 rfl rfl rfl)
  have hN4_41 : ∀ (b205 : Nat), ∀ (b245 : Nat), ∀ (b285 : Nat), ((sha_spread a1_b).bind fun r85 => (sha_constants ).bind fun r125 => jn (fun (x486 : Arr UInt32 8) => jn (fun (x489 : Arr UInt32 8) => some x489) fun J488 => sha_mix_l0 x486 J488 Fuel (0, a0_h)) fun J485 => sha_mix_l1 r85 r125 J485 Fuel (0, a0_h)) = some r → R (Sl E8 A1 c2 a1_b :: D0) (At b205 0 ((Arr.zero 0 64 : Arr UInt32 64).l.flatMap E32) :: At b245 0 ((Arr.zero 0 64 : Arr UInt32 64).l.flatMap E32) :: At b285 0 ((Arr.zero 0 8 : Arr UInt32 8).l.flatMap E32) :: At b3 0 (a0_h.l.flatMap E32) :: At b4 0 ((Arr.zero 0 8 : Arr UInt32 8).l.flatMap E32) :: G0) [(0, (.agg (a0_h.l.flatMap E32).toArray)), (1, (.slice A1 a1_b.length c2)), (2, (.pointer (some ⟨b3, 0, none⟩))), (4, (.pointer (some ⟨b4, 0, none⟩))), (5, (.pointer (some ⟨b205, 0, none⟩))), (6, (.pointer (some ⟨b245, 0, none⟩))), (7, (.pointer (some ⟨b285, 0, none⟩))), (10, (.slice A1 a1_b.length c2)), (13, (.agg (a0_h.l.flatMap E32).toArray))] 5 #[true, false, false, true, true, true, true, false, false, false] := by
    intro b205 b245 b285 H
    refine to ?_
    refine acs [1] rfl (by kernel_rfl) sl_nil ⟨?_, trivial⟩
    · obtain ⟨r85, Hc86, H⟩ := bind_some' H
      refine k_call (c_sha_spread a1_b A1 c2 r85 Hc86) Tryd.call111 rfl rfl rfl [0] [] rfl rfl (g0 rfl) rfl rfl ?_
      rintro _ _ _ ⟨rfl, rfl, rfl⟩
      dsimp only [List.cons_append, List.nil_append]
      exact wa_l (by kernel_rfl) (k_wk (fro (hN4_26 b205 b245 b285 r85 H)) [0, 1, 2, 4, 5, 6, 7, 10, 11, 13] [0] 1 [0, 0, 0, 0, 0] 0 rfl rfl rfl)
  have hN4_40 : ∀ (b205 : Nat), ∀ (b245 : Nat), ((sha_spread a1_b).bind fun r85 => (sha_constants ).bind fun r125 => jn (fun (x486 : Arr UInt32 8) => jn (fun (x489 : Arr UInt32 8) => some x489) fun J488 => sha_mix_l0 x486 J488 Fuel (0, a0_h)) fun J485 => sha_mix_l1 r85 r125 J485 Fuel (0, a0_h)) = some r → R (Sl E8 A1 c2 a1_b :: D0) (At b205 0 ((Arr.zero 0 64 : Arr UInt32 64).l.flatMap E32) :: At b245 0 ((Arr.zero 0 64 : Arr UInt32 64).l.flatMap E32) :: At b3 0 (a0_h.l.flatMap E32) :: At b4 0 ((Arr.zero 0 8 : Arr UInt32 8).l.flatMap E32) :: G0) [(0, (.agg (a0_h.l.flatMap E32).toArray)), (1, (.slice A1 a1_b.length c2)), (2, (.pointer (some ⟨b3, 0, none⟩))), (4, (.pointer (some ⟨b4, 0, none⟩))), (5, (.pointer (some ⟨b205, 0, none⟩))), (6, (.pointer (some ⟨b245, 0, none⟩))), (10, (.slice A1 a1_b.length c2)), (13, (.agg (a0_h.l.flatMap E32).toArray))] 6 #[true, false, false, true, true, true, false, false, false, false] := by
    intro b205 b245 H
    refine to ?_
    refine acs [1, 6] rfl (by kernel_rfl) sl_nil ⟨?_, ?_, trivial⟩
    · obtain ⟨r85, Hc86, H⟩ := bind_some' H
      refine k_call (c_sha_spread a1_b A1 c2 r85 Hc86) Tryd.call111 rfl rfl rfl [0] [] rfl rfl (g0 rfl) rfl rfl ?_
      rintro _ _ _ ⟨rfl, rfl, rfl⟩
      dsimp only [List.cons_append, List.nil_append]
      exact wa_l (by kernel_rfl) (k_wk (fro (hN4_25 b205 b245 r85 H)) [0, 1, 2, 4, 5, 6, 10, 11, 13] [0] 1 [0, 0, 0, 0] 0 rfl rfl rfl)
    · refine k_alloc rfl rfl Tryd.zeroValue144 (cs := (Arr.zero 0 8 : Arr UInt32 8).l.flatMap E32) rfl (g0 rfl) rfl rfl ?_
      intro b285
      exact wa_l (by kernel_rfl) (k_wk (fro (hN4_41 b205 b245 b285 H)) [0, 1, 2, 4, 5, 6, 7, 10, 13] [0] 1 [1, 1, 0, 0, 0] 0 rfl rfl rfl)
  have hN4_42 : ∀ (b205 : Nat), ∀ (b285 : Nat), ((sha_spread a1_b).bind fun r85 => (sha_constants ).bind fun r125 => jn (fun (x486 : Arr UInt32 8) => jn (fun (x489 : Arr UInt32 8) => some x489) fun J488 => sha_mix_l0 x486 J488 Fuel (0, a0_h)) fun J485 => sha_mix_l1 r85 r125 J485 Fuel (0, a0_h)) = some r → R (Sl E8 A1 c2 a1_b :: D0) (At b205 0 ((Arr.zero 0 64 : Arr UInt32 64).l.flatMap E32) :: At b285 0 ((Arr.zero 0 8 : Arr UInt32 8).l.flatMap E32) :: At b3 0 (a0_h.l.flatMap E32) :: At b4 0 ((Arr.zero 0 8 : Arr UInt32 8).l.flatMap E32) :: G0) [(0, (.agg (a0_h.l.flatMap E32).toArray)), (1, (.slice A1 a1_b.length c2)), (2, (.pointer (some ⟨b3, 0, none⟩))), (4, (.pointer (some ⟨b4, 0, none⟩))), (5, (.pointer (some ⟨b205, 0, none⟩))), (7, (.pointer (some ⟨b285, 0, none⟩))), (10, (.slice A1 a1_b.length c2)), (13, (.agg (a0_h.l.flatMap E32).toArray))] 6 #[true, false, false, true, true, false, true, false, false, false] := by
    intro b205 b285 H
    refine to ?_
    refine acs [1, 5] rfl (by kernel_rfl) sl_nil ⟨?_, ?_, trivial⟩
    · obtain ⟨r85, Hc86, H⟩ := bind_some' H
      refine k_call (c_sha_spread a1_b A1 c2 r85 Hc86) Tryd.call111 rfl rfl rfl [0] [] rfl rfl (g0 rfl) rfl rfl ?_
      rintro _ _ _ ⟨rfl, rfl, rfl⟩
      dsimp only [List.cons_append, List.nil_append]
      exact wa_l (by kernel_rfl) (k_wk (fro (hN4_27 b205 b285 r85 H)) [0, 1, 2, 4, 5, 7, 10, 11, 13] [0] 1 [0, 0, 0, 0] 0 rfl rfl rfl)
    · refine k_alloc rfl rfl Tryd.zeroValue172 (cs := (Arr.zero 0 64 : Arr UInt32 64).l.flatMap E32) rfl (g0 rfl) rfl rfl ?_
      intro b245
      exact wa_l (by kernel_rfl) (k_wk (fro (hN4_41 b205 b245 b285 H)) [0, 1, 2, 4, 5, 6, 7, 10, 13] [0] 1 [1, 0, 0, 0, 0] 0 rfl rfl rfl)
  have hN4_39 : ∀ (b205 : Nat), ((sha_spread a1_b).bind fun r85 => (sha_constants ).bind fun r125 => jn (fun (x486 : Arr UInt32 8) => jn (fun (x489 : Arr UInt32 8) => some x489) fun J488 => sha_mix_l0 x486 J488 Fuel (0, a0_h)) fun J485 => sha_mix_l1 r85 r125 J485 Fuel (0, a0_h)) = some r → R (Sl E8 A1 c2 a1_b :: D0) (At b205 0 ((Arr.zero 0 64 : Arr UInt32 64).l.flatMap E32) :: At b3 0 (a0_h.l.flatMap E32) :: At b4 0 ((Arr.zero 0 8 : Arr UInt32 8).l.flatMap E32) :: G0) [(0, (.agg (a0_h.l.flatMap E32).toArray)), (1, (.slice A1 a1_b.length c2)), (2, (.pointer (some ⟨b3, 0, none⟩))), (4, (.pointer (some ⟨b4, 0, none⟩))), (5, (.pointer (some ⟨b205, 0, none⟩))), (10, (.slice A1 a1_b.length c2)), (13, (.agg (a0_h.l.flatMap E32).toArray))] 7 #[true, false, false, true, true, false, false, false, false, false] := by
    intro b205 H
    refine to ?_
    refine acs [1, 5, 6] rfl (by kernel_rfl) sl_nil ⟨?_, ?_, ?_, trivial⟩
    · obtain ⟨r85, Hc86, H⟩ := bind_some' H
      refine k_call (c_sha_spread a1_b A1 c2 r85 Hc86) Tryd.call111 rfl rfl rfl [0] [] rfl rfl (g0 rfl) rfl rfl ?_
      rintro _ _ _ ⟨rfl, rfl, rfl⟩
      dsimp only [List.cons_append, List.nil_append]
      exact wa_l (by kernel_rfl) (k_wk (fro (hN4_24 b205 r85 H)) [0, 1, 2, 4, 5, 10, 11, 13] [0] 1 [0, 0, 0] 0 rfl rfl rfl)
    · refine k_alloc rfl rfl Tryd.zeroValue172 (cs := (Arr.zero 0 64 : Arr UInt32 64).l.flatMap E32) rfl (g0 rfl) rfl rfl ?_
      intro b245
      exact wa_l (by kernel_rfl) (k_wk (fro (hN4_40 b205 b245 H)) [0, 1, 2, 4, 5, 6, 10, 13] [0] 1 [1, 0, 0, 0] 0 rfl rfl rfl)
    · refine k_alloc rfl rfl Tryd.zeroValue144 (cs := (Arr.zero 0 8 : Arr UInt32 8).l.flatMap E32) rfl (g0 rfl) rfl rfl ?_
      intro b285
      exact wa_l (by kernel_rfl) (k_wk (fro (hN4_42 b205 b285 H)) [0, 1, 2, 4, 5, 7, 10, 13] [0] 1 [1, 0, 0, 0] 0 rfl rfl rfl)
  have hN4_44 : ∀ (b245 : Nat), ∀ (b285 : Nat), ((sha_spread a1_b).bind fun r85 => (sha_constants ).bind fun r125 => jn (fun (x486 : Arr UInt32 8) => jn (fun (x489 : Arr UInt32 8) => some x489) fun J488 => sha_mix_l0 x486 J488 Fuel (0, a0_h)) fun J485 => sha_mix_l1 r85 r125 J485 Fuel (0, a0_h)) = some r → R (Sl E8 A1 c2 a1_b :: D0) (At b245 0 ((Arr.zero 0 64 : Arr UInt32 64).l.flatMap E32) :: At b285 0 ((Arr.zero 0 8 : Arr UInt32 8).l.flatMap E32) :: At b3 0 (a0_h.l.flatMap E32) :: At b4 0 ((Arr.zero 0 8 : Arr UInt32 8).l.flatMap E32) :: G0) [(0, (.agg (a0_h.l.flatMap E32).toArray)), (1, (.slice A1 a1_b.length c2)), (2, (.pointer (some ⟨b3, 0, none⟩))), (4, (.pointer (some ⟨b4, 0, none⟩))), (6, (.pointer (some ⟨b245, 0, none⟩))), (7, (.pointer (some ⟨b285, 0, none⟩))), (10, (.slice A1 a1_b.length c2)), (13, (.agg (a0_h.l.flatMap E32).toArray))] 6 #[true, false, false, true, false, true, true, false, false, false] := by
    intro b245 b285 H
    refine to ?_
    refine acs [1, 4] rfl (by kernel_rfl) sl_nil ⟨?_, ?_, trivial⟩
    · obtain ⟨r85, Hc86, H⟩ := bind_some' H
      refine k_call (c_sha_spread a1_b A1 c2 r85 Hc86) Tryd.call111 rfl rfl rfl [0] [] rfl rfl (g0 rfl) rfl rfl ?_
      rintro _ _ _ ⟨rfl, rfl, rfl⟩
      dsimp only [List.cons_append, List.nil_append]
      exact wa_l (by kernel_rfl) (k_wk (fro (hN4_29 b245 b285 r85 H)) [0, 1, 2, 4, 6, 7, 10, 11, 13] [0] 1 [0, 0, 0, 0] 0 rfl rfl rfl)
    · refine k_alloc rfl rfl Tryd.zeroValue172 (cs := (Arr.zero 0 64 : Arr UInt32 64).l.flatMap E32) rfl (g0 rfl) rfl rfl ?_
      intro b205
      exact wa_l (by kernel_rfl) (k_wk (fro (hN4_41 b205 b245 b285 H)) [0, 1, 2, 4, 5, 6, 7, 10, 13] [0] 1 [0, 0, 0, 0, 0] 0 rfl rfl rfl)
  have hN4_43 : ∀ (b245 : Nat), ((sha_spread a1_b).bind fun r85 => (sha_constants ).bind fun r125 => jn (fun (x486 : Arr UInt32 8) => jn (fun (x489 : Arr UInt32 8) => some x489) fun J488 => sha_mix_l0 x486 J488 Fuel (0, a0_h)) fun J485 => sha_mix_l1 r85 r125 J485 Fuel (0, a0_h)) = some r → R (Sl E8 A1 c2 a1_b :: D0) (At b245 0 ((Arr.zero 0 64 : Arr UInt32 64).l.flatMap E32) :: At b3 0 (a0_h.l.flatMap E32) :: At b4 0 ((Arr.zero 0 8 : Arr UInt32 8).l.flatMap E32) :: G0) [(0, (.agg (a0_h.l.flatMap E32).toArray)), (1, (.slice A1 a1_b.length c2)), (2, (.pointer (some ⟨b3, 0, none⟩))), (4, (.pointer (some ⟨b4, 0, none⟩))), (6, (.pointer (some ⟨b245, 0, none⟩))), (10, (.slice A1 a1_b.length c2)), (13, (.agg (a0_h.l.flatMap E32).toArray))] 7 #[true, false, false, true, false, true, false, false, false, false] := by
    intro b245 H
    refine to ?_
    refine acs [1, 4, 6] rfl (by kernel_rfl) sl_nil ⟨?_, ?_, ?_, trivial⟩
    · obtain ⟨r85, Hc86, H⟩ := bind_some' H
      refine k_call (c_sha_spread a1_b A1 c2 r85 Hc86) Tryd.call111 rfl rfl rfl [0] [] rfl rfl (g0 rfl) rfl rfl ?_
      rintro _ _ _ ⟨rfl, rfl, rfl⟩
      dsimp only [List.cons_append, List.nil_append]
      exact wa_l (by kernel_rfl) (k_wk (fro (hN4_28 b245 r85 H)) [0, 1, 2, 4, 6, 10, 11, 13] [0] 1 [0, 0, 0] 0 rfl rfl rfl)
    · refine k_alloc rfl rfl Tryd.zeroValue172 (cs := (Arr.zero 0 64 : Arr UInt32 64).l.flatMap E32) rfl (g0 rfl) rfl rfl ?_
      intro b205
      exact wa_l (by kernel_rfl) (k_wk (fro (hN4_40 b205 b245 H)) [0, 1, 2, 4, 5, 6, 10, 13] [0] 1 [0, 0, 0, 0] 0 rfl rfl rfl)
    · refine k_alloc rfl rfl Tryd.zeroValue144 (cs := (Arr.zero 0 8 : Arr UInt32 8).l.flatMap E32) rfl (g0 rfl) rfl rfl ?_
      intro b285
      exact wa_l (by kernel_rfl) (k_wk (fro (hN4_44 b245 b285 H)) [0, 1, 2, 4, 6, 7, 10, 13] [0] 1 [1, 0, 0, 0] 0 rfl rfl rfl)
  have hN4_45 : ∀ (b285 : Nat), ((sha_spread a1_b).bind fun r85 => (sha_constants ).bind fun r125 => jn (fun (x486 : Arr UInt32 8) => jn (fun (x489 : Arr UInt32 8) => some x489) fun J488 => sha_mix_l0 x486 J488 Fuel (0, a0_h)) fun J485 => sha_mix_l1 r85 r125 J485 Fuel (0, a0_h)) = some r → R (Sl E8 A1 c2 a1_b :: D0) (At b285 0 ((Arr.zero 0 8 : Arr UInt32 8).l.flatMap E32) :: At b3 0 (a0_h.l.flatMap E32) :: At b4 0 ((Arr.zero 0 8 : Arr UInt32 8).l.flatMap E32) :: G0) [(0, (.agg (a0_h.l.flatMap E32).toArray)), (1, (.slice A1 a1_b.length c2)), (2, (.pointer (some ⟨b3, 0, none⟩))), (4, (.pointer (some ⟨b4, 0, none⟩))), (7, (.pointer (some ⟨b285, 0, none⟩))), (10, (.slice A1 a1_b.length c2)), (13, (.agg (a0_h.l.flatMap E32).toArray))] 7 #[true, false, false, true, false, false, true, false, false, false] := by
    intro b285 H
    refine to ?_
    refine acs [1, 4, 5] rfl (by kernel_rfl) sl_nil ⟨?_, ?_, ?_, trivial⟩
    · obtain ⟨r85, Hc86, H⟩ := bind_some' H
      refine k_call (c_sha_spread a1_b A1 c2 r85 Hc86) Tryd.call111 rfl rfl rfl [0] [] rfl rfl (g0 rfl) rfl rfl ?_
      rintro _ _ _ ⟨rfl, rfl, rfl⟩
      dsimp only [List.cons_append, List.nil_append]
      exact wa_l (by kernel_rfl) (k_wk (fro (hN4_30 b285 r85 H)) [0, 1, 2, 4, 7, 10, 11, 13] [0] 1 [0, 0, 0] 0 rfl rfl rfl)
    · refine k_alloc rfl rfl Tryd.zeroValue172 (cs := (Arr.zero 0 64 : Arr UInt32 64).l.flatMap E32) rfl (g0 rfl) rfl rfl ?_
      intro b205
      exact wa_l (by kernel_rfl) (k_wk (fro (hN4_42 b205 b285 H)) [0, 1, 2, 4, 5, 7, 10, 13] [0] 1 [0, 0, 0, 0] 0 rfl rfl rfl)
    · refine k_alloc rfl rfl Tryd.zeroValue172 (cs := (Arr.zero 0 64 : Arr UInt32 64).l.flatMap E32) rfl (g0 rfl) rfl rfl ?_
      intro b245
      exact wa_l (by kernel_rfl) (k_wk (fro (hN4_44 b245 b285 H)) [0, 1, 2, 4, 6, 7, 10, 13] [0] 1 [0, 0, 0, 0] 0 rfl rfl rfl)
  have hN4_38 : ((sha_spread a1_b).bind fun r85 => (sha_constants ).bind fun r125 => jn (fun (x486 : Arr UInt32 8) => jn (fun (x489 : Arr UInt32 8) => some x489) fun J488 => sha_mix_l0 x486 J488 Fuel (0, a0_h)) fun J485 => sha_mix_l1 r85 r125 J485 Fuel (0, a0_h)) = some r → R (Sl E8 A1 c2 a1_b :: D0) (At b3 0 (a0_h.l.flatMap E32) :: At b4 0 ((Arr.zero 0 8 : Arr UInt32 8).l.flatMap E32) :: G0) [(0, (.agg (a0_h.l.flatMap E32).toArray)), (1, (.slice A1 a1_b.length c2)), (2, (.pointer (some ⟨b3, 0, none⟩))), (4, (.pointer (some ⟨b4, 0, none⟩))), (10, (.slice A1 a1_b.length c2)), (13, (.agg (a0_h.l.flatMap E32).toArray))] 8 #[true, false, false, true, false, false, false, false, false, false] := by
    intro H
    refine to ?_
    refine acs [1, 4, 5, 6] rfl (by kernel_rfl) sl_nil ⟨?_, ?_, ?_, ?_, trivial⟩
    · obtain ⟨r85, Hc86, H⟩ := bind_some' H
      refine k_call (c_sha_spread a1_b A1 c2 r85 Hc86) Tryd.call111 rfl rfl rfl [0] [] rfl rfl (g0 rfl) rfl rfl ?_
      rintro _ _ _ ⟨rfl, rfl, rfl⟩
      dsimp only [List.cons_append, List.nil_append]
      exact wa_l (by kernel_rfl) (k_wk (fro (hN4_23 r85 H)) [0, 1, 2, 4, 10, 11, 13] [0] 1 [0, 0] 0 rfl rfl rfl)
    · refine k_alloc rfl rfl Tryd.zeroValue172 (cs := (Arr.zero 0 64 : Arr UInt32 64).l.flatMap E32) rfl (g0 rfl) rfl rfl ?_
      intro b205
      exact wa_l (by kernel_rfl) (k_wk (fro (hN4_39 b205 H)) [0, 1, 2, 4, 5, 10, 13] [0] 1 [0, 0, 0] 0 rfl rfl rfl)
    · refine k_alloc rfl rfl Tryd.zeroValue172 (cs := (Arr.zero 0 64 : Arr UInt32 64).l.flatMap E32) rfl (g0 rfl) rfl rfl ?_
      intro b245
      exact wa_l (by kernel_rfl) (k_wk (fro (hN4_43 b245 H)) [0, 1, 2, 4, 6, 10, 13] [0] 1 [0, 0, 0] 0 rfl rfl rfl)
    · refine k_alloc rfl rfl Tryd.zeroValue144 (cs := (Arr.zero 0 8 : Arr UInt32 8).l.flatMap E32) rfl (g0 rfl) rfl rfl ?_
      intro b285
      exact wa_l (by kernel_rfl) (k_wk (fro (hN4_45 b285 H)) [0, 1, 2, 4, 7, 10, 13] [0] 1 [0, 0, 0] 0 rfl rfl rfl)
  have hN4_48 : ∀ (b205 : Nat), ∀ (b245 : Nat), ∀ (b285 : Nat), ((sha_spread a1_b).bind fun r85 => (sha_constants ).bind fun r125 => jn (fun (x486 : Arr UInt32 8) => jn (fun (x489 : Arr UInt32 8) => some x489) fun J488 => sha_mix_l0 x486 J488 Fuel (0, a0_h)) fun J485 => sha_mix_l1 r85 r125 J485 Fuel (0, a0_h)) = some r → R (Sl E8 A1 c2 a1_b :: D0) (At b205 0 ((Arr.zero 0 64 : Arr UInt32 64).l.flatMap E32) :: At b245 0 ((Arr.zero 0 64 : Arr UInt32 64).l.flatMap E32) :: At b285 0 ((Arr.zero 0 8 : Arr UInt32 8).l.flatMap E32) :: At b3 0 (a0_h.l.flatMap E32) :: At b4 0 ((Arr.zero 0 8 : Arr UInt32 8).l.flatMap E32) :: G0) [(0, (.agg (a0_h.l.flatMap E32).toArray)), (1, (.slice A1 a1_b.length c2)), (2, (.pointer (some ⟨b3, 0, none⟩))), (4, (.pointer (some ⟨b4, 0, none⟩))), (5, (.pointer (some ⟨b205, 0, none⟩))), (6, (.pointer (some ⟨b245, 0, none⟩))), (7, (.pointer (some ⟨b285, 0, none⟩))), (10, (.slice A1 a1_b.length c2))] 6 #[true, false, false, false, true, true, true, false, false, false] := by
    intro b205 b245 b285 H
    refine to ?_
    refine acs [1, 3] rfl (by kernel_rfl) sl_nil ⟨?_, ?_, trivial⟩
    · obtain ⟨r85, Hc86, H⟩ := bind_some' H
      refine k_call (c_sha_spread a1_b A1 c2 r85 Hc86) Tryd.call111 rfl rfl rfl [0] [] rfl rfl (g0 rfl) rfl rfl ?_
      rintro _ _ _ ⟨rfl, rfl, rfl⟩
      dsimp only [List.cons_append, List.nil_append]
      exact wa_l (by kernel_rfl) (k_wk (fro (hN4_33 b205 b245 b285 r85 H)) [0, 1, 2, 4, 5, 6, 7, 10, 11] [0] 1 [0, 0, 0, 0, 0] 0 rfl rfl rfl)
    · refine k_ld (hG 3 rfl) rfl (ev_ldN (j := 0) rfl rfl Tryd.isAgg144 (sz (arr_len E32_len _ rfl) Tryd.sizeOf144) (sub_all _) rfl) (g0 rfl) rfl rfl ?_
      exact wa_l (by kernel_rfl) (k_wk (fro (hN4_41 b205 b245 b285 H)) [0, 1, 2, 4, 5, 6, 7, 10, 13] [0] 1 [0, 0, 0, 0, 0] 0 rfl rfl rfl)
  have hN4_47 : ∀ (b205 : Nat), ∀ (b245 : Nat), ((sha_spread a1_b).bind fun r85 => (sha_constants ).bind fun r125 => jn (fun (x486 : Arr UInt32 8) => jn (fun (x489 : Arr UInt32 8) => some x489) fun J488 => sha_mix_l0 x486 J488 Fuel (0, a0_h)) fun J485 => sha_mix_l1 r85 r125 J485 Fuel (0, a0_h)) = some r → R (Sl E8 A1 c2 a1_b :: D0) (At b205 0 ((Arr.zero 0 64 : Arr UInt32 64).l.flatMap E32) :: At b245 0 ((Arr.zero 0 64 : Arr UInt32 64).l.flatMap E32) :: At b3 0 (a0_h.l.flatMap E32) :: At b4 0 ((Arr.zero 0 8 : Arr UInt32 8).l.flatMap E32) :: G0) [(0, (.agg (a0_h.l.flatMap E32).toArray)), (1, (.slice A1 a1_b.length c2)), (2, (.pointer (some ⟨b3, 0, none⟩))), (4, (.pointer (some ⟨b4, 0, none⟩))), (5, (.pointer (some ⟨b205, 0, none⟩))), (6, (.pointer (some ⟨b245, 0, none⟩))), (10, (.slice A1 a1_b.length c2))] 7 #[true, false, false, false, true, true, false, false, false, false] := by
    intro b205 b245 H
    refine to ?_
    refine acs [1, 3, 6] rfl (by kernel_rfl) sl_nil ⟨?_, ?_, ?_, trivial⟩
    · obtain ⟨r85, Hc86, H⟩ := bind_some' H
      refine k_call (c_sha_spread a1_b A1 c2 r85 Hc86) Tryd.call111 rfl rfl rfl [0] [] rfl rfl (g0 rfl) rfl rfl ?_
      rintro _ _ _ ⟨rfl, rfl, rfl⟩
      dsimp only [List.cons_append, List.nil_append]
      exact wa_l (by kernel_rfl) (k_wk (fro (hN4_32 b205 b245 r85 H)) [0, 1, 2, 4, 5, 6, 10, 11] [0] 1 [0, 0, 0, 0] 0 rfl rfl rfl)
    · refine k_ld (hG 2 rfl) rfl (ev_ldN (j := 0) rfl rfl Tryd.isAgg144 (sz (arr_len E32_len _ rfl) Tryd.sizeOf144) (sub_all _) rfl) (g0 rfl) rfl rfl ?_
      exact wa_l (by kernel_rfl) (k_wk (fro (hN4_40 b205 b245 H)) [0, 1, 2, 4, 5, 6, 10, 13] [0] 1 [0, 0, 0, 0] 0 rfl rfl rfl)
    · refine k_alloc rfl rfl Tryd.zeroValue144 (cs := (Arr.zero 0 8 : Arr UInt32 8).l.flatMap E32) rfl (g0 rfl) rfl rfl ?_
      intro b285
      exact wa_l (by kernel_rfl) (k_wk (fro (hN4_48 b205 b245 b285 H)) [0, 1, 2, 4, 5, 6, 7, 10] [0] 1 [1, 1, 0, 0, 0] 0 rfl rfl rfl)
  have hN4_49 : ∀ (b205 : Nat), ∀ (b285 : Nat), ((sha_spread a1_b).bind fun r85 => (sha_constants ).bind fun r125 => jn (fun (x486 : Arr UInt32 8) => jn (fun (x489 : Arr UInt32 8) => some x489) fun J488 => sha_mix_l0 x486 J488 Fuel (0, a0_h)) fun J485 => sha_mix_l1 r85 r125 J485 Fuel (0, a0_h)) = some r → R (Sl E8 A1 c2 a1_b :: D0) (At b205 0 ((Arr.zero 0 64 : Arr UInt32 64).l.flatMap E32) :: At b285 0 ((Arr.zero 0 8 : Arr UInt32 8).l.flatMap E32) :: At b3 0 (a0_h.l.flatMap E32) :: At b4 0 ((Arr.zero 0 8 : Arr UInt32 8).l.flatMap E32) :: G0) [(0, (.agg (a0_h.l.flatMap E32).toArray)), (1, (.slice A1 a1_b.length c2)), (2, (.pointer (some ⟨b3, 0, none⟩))), (4, (.pointer (some ⟨b4, 0, none⟩))), (5, (.pointer (some ⟨b205, 0, none⟩))), (7, (.pointer (some ⟨b285, 0, none⟩))), (10, (.slice A1 a1_b.length c2))] 7 #[true, false, false, false, true, false, true, false, false, false] := by
    intro b205 b285 H
    refine to ?_
    refine acs [1, 3, 5] rfl (by kernel_rfl) sl_nil ⟨?_, ?_, ?_, trivial⟩
    · obtain ⟨r85, Hc86, H⟩ := bind_some' H
      refine k_call (c_sha_spread a1_b A1 c2 r85 Hc86) Tryd.call111 rfl rfl rfl [0] [] rfl rfl (g0 rfl) rfl rfl ?_
      rintro _ _ _ ⟨rfl, rfl, rfl⟩
      dsimp only [List.cons_append, List.nil_append]
      exact wa_l (by kernel_rfl) (k_wk (fro (hN4_34 b205 b285 r85 H)) [0, 1, 2, 4, 5, 7, 10, 11] [0] 1 [0, 0, 0, 0] 0 rfl rfl rfl)
    · refine k_ld (hG 2 rfl) rfl (ev_ldN (j := 0) rfl rfl Tryd.isAgg144 (sz (arr_len E32_len _ rfl) Tryd.sizeOf144) (sub_all _) rfl) (g0 rfl) rfl rfl ?_
      exact wa_l (by kernel_rfl) (k_wk (fro (hN4_42 b205 b285 H)) [0, 1, 2, 4, 5, 7, 10, 13] [0] 1 [0, 0, 0, 0] 0 rfl rfl rfl)
    · refine k_alloc rfl rfl Tryd.zeroValue172 (cs := (Arr.zero 0 64 : Arr UInt32 64).l.flatMap E32) rfl (g0 rfl) rfl rfl ?_
      intro b245
      exact wa_l (by kernel_rfl) (k_wk (fro (hN4_48 b205 b245 b285 H)) [0, 1, 2, 4, 5, 6, 7, 10] [0] 1 [1, 0, 0, 0, 0] 0 rfl rfl rfl)
  have hN4_46 : ∀ (b205 : Nat), ((sha_spread a1_b).bind fun r85 => (sha_constants ).bind fun r125 => jn (fun (x486 : Arr UInt32 8) => jn (fun (x489 : Arr UInt32 8) => some x489) fun J488 => sha_mix_l0 x486 J488 Fuel (0, a0_h)) fun J485 => sha_mix_l1 r85 r125 J485 Fuel (0, a0_h)) = some r → R (Sl E8 A1 c2 a1_b :: D0) (At b205 0 ((Arr.zero 0 64 : Arr UInt32 64).l.flatMap E32) :: At b3 0 (a0_h.l.flatMap E32) :: At b4 0 ((Arr.zero 0 8 : Arr UInt32 8).l.flatMap E32) :: G0) [(0, (.agg (a0_h.l.flatMap E32).toArray)), (1, (.slice A1 a1_b.length c2)), (2, (.pointer (some ⟨b3, 0, none⟩))), (4, (.pointer (some ⟨b4, 0, none⟩))), (5, (.pointer (some ⟨b205, 0, none⟩))), (10, (.slice A1 a1_b.length c2))] 8 #[true, false, false, false, true, false, false, false, false, false] := by
    intro b205 H
    refine to ?_
    refine acs [1, 3, 5, 6] rfl (by kernel_rfl) sl_nil ⟨?_, ?_, ?_, ?_, trivial⟩
    · obtain ⟨r85, Hc86, H⟩ := bind_some' H
      refine k_call (c_sha_spread a1_b A1 c2 r85 Hc86) Tryd.call111 rfl rfl rfl [0] [] rfl rfl (g0 rfl) rfl rfl ?_
      rintro _ _ _ ⟨rfl, rfl, rfl⟩
      dsimp only [List.cons_append, List.nil_append]
      exact wa_l (by kernel_rfl) (k_wk (fro (hN4_31 b205 r85 H)) [0, 1, 2, 4, 5, 10, 11] [0] 1 [0, 0, 0] 0 rfl rfl rfl)
    · refine k_ld (hG 1 rfl) rfl (ev_ldN (j := 0) rfl rfl Tryd.isAgg144 (sz (arr_len E32_len _ rfl) Tryd.sizeOf144) (sub_all _) rfl) (g0 rfl) rfl rfl ?_
      exact wa_l (by kernel_rfl) (k_wk (fro (hN4_39 b205 H)) [0, 1, 2, 4, 5, 10, 13] [0] 1 [0, 0, 0] 0 rfl rfl rfl)
    · refine k_alloc rfl rfl Tryd.zeroValue172 (cs := (Arr.zero 0 64 : Arr UInt32 64).l.flatMap E32) rfl (g0 rfl) rfl rfl ?_
      intro b245
      exact wa_l (by kernel_rfl) (k_wk (fro (hN4_47 b205 b245 H)) [0, 1, 2, 4, 5, 6, 10] [0] 1 [1, 0, 0, 0] 0 rfl rfl rfl)
    · refine k_alloc rfl rfl Tryd.zeroValue144 (cs := (Arr.zero 0 8 : Arr UInt32 8).l.flatMap E32) rfl (g0 rfl) rfl rfl ?_
      intro b285
      exact wa_l (by kernel_rfl) (k_wk (fro (hN4_49 b205 b285 H)) [0, 1, 2, 4, 5, 7, 10] [0] 1 [1, 0, 0, 0] 0 rfl rfl rfl)
  have hN4_51 : ∀ (b245 : Nat), ∀ (b285 : Nat), ((sha_spread a1_b).bind fun r85 => (sha_constants ).bind fun r125 => jn (fun (x486 : Arr UInt32 8) => jn (fun (x489 : Arr UInt32 8) => some x489) fun J488 => sha_mix_l0 x486 J488 Fuel (0, a0_h)) fun J485 => sha_mix_l1 r85 r125 J485 Fuel (0, a0_h)) = some r → R (Sl E8 A1 c2 a1_b :: D0) (At b245 0 ((Arr.zero 0 64 : Arr UInt32 64).l.flatMap E32) :: At b285 0 ((Arr.zero 0 8 : Arr UInt32 8).l.flatMap E32) :: At b3 0 (a0_h.l.flatMap E32) :: At b4 0 ((Arr.zero 0 8 : Arr UInt32 8).l.flatMap E32) :: G0) [(0, (.agg (a0_h.l.flatMap E32).toArray)), (1, (.slice A1 a1_b.length c2)), (2, (.pointer (some ⟨b3, 0, none⟩))), (4, (.pointer (some ⟨b4, 0, none⟩))), (6, (.pointer (some ⟨b245, 0, none⟩))), (7, (.pointer (some ⟨b285, 0, none⟩))), (10, (.slice A1 a1_b.length c2))] 7 #[true, false, false, false, false, true, true, false, false, false] := by
    intro b245 b285 H
    refine to ?_
    refine acs [1, 3, 4] rfl (by kernel_rfl) sl_nil ⟨?_, ?_, ?_, trivial⟩
    · obtain ⟨r85, Hc86, H⟩ := bind_some' H
      refine k_call (c_sha_spread a1_b A1 c2 r85 Hc86) Tryd.call111 rfl rfl rfl [0] [] rfl rfl (g0 rfl) rfl rfl ?_
      rintro _ _ _ ⟨rfl, rfl, rfl⟩
      dsimp only [List.cons_append, List.nil_append]
      exact wa_l (by kernel_rfl) (k_wk (fro (hN4_36 b245 b285 r85 H)) [0, 1, 2, 4, 6, 7, 10, 11] [0] 1 [0, 0, 0, 0] 0 rfl rfl rfl)
    · refine k_ld (hG 2 rfl) rfl (ev_ldN (j := 0) rfl rfl Tryd.isAgg144 (sz (arr_len E32_len _ rfl) Tryd.sizeOf144) (sub_all _) rfl) (g0 rfl) rfl rfl ?_
      exact wa_l (by kernel_rfl) (k_wk (fro (hN4_44 b245 b285 H)) [0, 1, 2, 4, 6, 7, 10, 13] [0] 1 [0, 0, 0, 0] 0 rfl rfl rfl)
    · refine k_alloc rfl rfl Tryd.zeroValue172 (cs := (Arr.zero 0 64 : Arr UInt32 64).l.flatMap E32) rfl (g0 rfl) rfl rfl ?_
      intro b205
      exact wa_l (by kernel_rfl) (k_wk (fro (hN4_48 b205 b245 b285 H)) [0, 1, 2, 4, 5, 6, 7, 10] [0] 1 [0, 0, 0, 0, 0] 0 rfl rfl rfl)
  have hN4_50 : ∀ (b245 : Nat), ((sha_spread a1_b).bind fun r85 => (sha_constants ).bind fun r125 => jn (fun (x486 : Arr UInt32 8) => jn (fun (x489 : Arr UInt32 8) => some x489) fun J488 => sha_mix_l0 x486 J488 Fuel (0, a0_h)) fun J485 => sha_mix_l1 r85 r125 J485 Fuel (0, a0_h)) = some r → R (Sl E8 A1 c2 a1_b :: D0) (At b245 0 ((Arr.zero 0 64 : Arr UInt32 64).l.flatMap E32) :: At b3 0 (a0_h.l.flatMap E32) :: At b4 0 ((Arr.zero 0 8 : Arr UInt32 8).l.flatMap E32) :: G0) [(0, (.agg (a0_h.l.flatMap E32).toArray)), (1, (.slice A1 a1_b.length c2)), (2, (.pointer (some ⟨b3, 0, none⟩))), (4, (.pointer (some ⟨b4, 0, none⟩))), (6, (.pointer (some ⟨b245, 0, none⟩))), (10, (.slice A1 a1_b.length c2))] 8 #[true, false, false, false, false, true, false, false, false, false] := by
    intro b245 H
    refine to ?_
    refine acs [1, 3, 4, 6] rfl (by kernel_rfl) sl_nil ⟨?_, ?_, ?_, ?_, trivial⟩
    · obtain ⟨r85, Hc86, H⟩ := bind_some' H
      refine k_call (c_sha_spread a1_b A1 c2 r85 Hc86) Tryd.call111 rfl rfl rfl [0] [] rfl rfl (g0 rfl) rfl rfl ?_
      rintro _ _ _ ⟨rfl, rfl, rfl⟩
      dsimp only [List.cons_append, List.nil_append]
      exact wa_l (by kernel_rfl) (k_wk (fro (hN4_35 b245 r85 H)) [0, 1, 2, 4, 6, 10, 11] [0] 1 [0, 0, 0] 0 rfl rfl rfl)
    · refine k_ld (hG 1 rfl) rfl (ev_ldN (j := 0) rfl rfl Tryd.isAgg144 (sz (arr_len E32_len _ rfl) Tryd.sizeOf144) (sub_all _) rfl) (g0 rfl) rfl rfl ?_
      exact wa_l (by kernel_rfl) (k_wk (fro (hN4_43 b245 H)) [0, 1, 2, 4, 6, 10, 13] [0] 1 [0, 0, 0] 0 rfl rfl rfl)
    · refine k_alloc rfl rfl Tryd.zeroValue172 (cs := (Arr.zero 0 64 : Arr UInt32 64).l.flatMap E32) rfl (g0 rfl) rfl rfl ?_
      intro b205
      exact wa_l (by kernel_rfl) (k_wk (fro (hN4_47 b205 b245 H)) [0, 1, 2, 4, 5, 6, 10] [0] 1 [0, 0, 0, 0] 0 rfl rfl rfl)
    · refine k_alloc rfl rfl Tryd.zeroValue144 (cs := (Arr.zero 0 8 : Arr UInt32 8).l.flatMap E32) rfl (g0 rfl) rfl rfl ?_
      intro b285
      exact wa_l (by kernel_rfl) (k_wk (fro (hN4_51 b245 b285 H)) [0, 1, 2, 4, 6, 7, 10] [0] 1 [1, 0, 0, 0] 0 rfl rfl rfl)
  have hN4_52 : ∀ (b285 : Nat), ((sha_spread a1_b).bind fun r85 => (sha_constants ).bind fun r125 => jn (fun (x486 : Arr UInt32 8) => jn (fun (x489 : Arr UInt32 8) => some x489) fun J488 => sha_mix_l0 x486 J488 Fuel (0, a0_h)) fun J485 => sha_mix_l1 r85 r125 J485 Fuel (0, a0_h)) = some r → R (Sl E8 A1 c2 a1_b :: D0) (At b285 0 ((Arr.zero 0 8 : Arr UInt32 8).l.flatMap E32) :: At b3 0 (a0_h.l.flatMap E32) :: At b4 0 ((Arr.zero 0 8 : Arr UInt32 8).l.flatMap E32) :: G0) [(0, (.agg (a0_h.l.flatMap E32).toArray)), (1, (.slice A1 a1_b.length c2)), (2, (.pointer (some ⟨b3, 0, none⟩))), (4, (.pointer (some ⟨b4, 0, none⟩))), (7, (.pointer (some ⟨b285, 0, none⟩))), (10, (.slice A1 a1_b.length c2))] 8 #[true, false, false, false, false, false, true, false, false, false] := by
    intro b285 H
    refine to ?_
    refine acs [1, 3, 4, 5] rfl (by kernel_rfl) sl_nil ⟨?_, ?_, ?_, ?_, trivial⟩
    · obtain ⟨r85, Hc86, H⟩ := bind_some' H
      refine k_call (c_sha_spread a1_b A1 c2 r85 Hc86) Tryd.call111 rfl rfl rfl [0] [] rfl rfl (g0 rfl) rfl rfl ?_
      rintro _ _ _ ⟨rfl, rfl, rfl⟩
      dsimp only [List.cons_append, List.nil_append]
      exact wa_l (by kernel_rfl) (k_wk (fro (hN4_37 b285 r85 H)) [0, 1, 2, 4, 7, 10, 11] [0] 1 [0, 0, 0] 0 rfl rfl rfl)
    · refine k_ld (hG 1 rfl) rfl (ev_ldN (j := 0) rfl rfl Tryd.isAgg144 (sz (arr_len E32_len _ rfl) Tryd.sizeOf144) (sub_all _) rfl) (g0 rfl) rfl rfl ?_
      exact wa_l (by kernel_rfl) (k_wk (fro (hN4_45 b285 H)) [0, 1, 2, 4, 7, 10, 13] [0] 1 [0, 0, 0] 0 rfl rfl rfl)
    · refine k_alloc rfl rfl Tryd.zeroValue172 (cs := (Arr.zero 0 64 : Arr UInt32 64).l.flatMap E32) rfl (g0 rfl) rfl rfl ?_
      intro b205
      exact wa_l (by kernel_rfl) (k_wk (fro (hN4_49 b205 b285 H)) [0, 1, 2, 4, 5, 7, 10] [0] 1 [0, 0, 0, 0] 0 rfl rfl rfl)
    · refine k_alloc rfl rfl Tryd.zeroValue172 (cs := (Arr.zero 0 64 : Arr UInt32 64).l.flatMap E32) rfl (g0 rfl) rfl rfl ?_
      intro b245
      exact wa_l (by kernel_rfl) (k_wk (fro (hN4_51 b245 b285 H)) [0, 1, 2, 4, 6, 7, 10] [0] 1 [0, 0, 0, 0] 0 rfl rfl rfl)
  have hN4_0 : ((sha_spread a1_b).bind fun r85 => (sha_constants ).bind fun r125 => jn (fun (x486 : Arr UInt32 8) => jn (fun (x489 : Arr UInt32 8) => some x489) fun J488 => sha_mix_l0 x486 J488 Fuel (0, a0_h)) fun J485 => sha_mix_l1 r85 r125 J485 Fuel (0, a0_h)) = some r → R (Sl E8 A1 c2 a1_b :: D0) (At b3 0 (a0_h.l.flatMap E32) :: At b4 0 ((Arr.zero 0 8 : Arr UInt32 8).l.flatMap E32) :: G0) [(0, (.agg (a0_h.l.flatMap E32).toArray)), (1, (.slice A1 a1_b.length c2)), (2, (.pointer (some ⟨b3, 0, none⟩))), (4, (.pointer (some ⟨b4, 0, none⟩))), (10, (.slice A1 a1_b.length c2))] 9 #[true, false, false, false, false, false, false, false, false, false] := by
    intro H
    refine to ?_
    refine acs [1, 3, 4, 5, 6] rfl (by kernel_rfl) sl_nil ⟨?_, ?_, ?_, ?_, ?_, trivial⟩
    · obtain ⟨r85, Hc86, H⟩ := bind_some' H
      refine k_call (c_sha_spread a1_b A1 c2 r85 Hc86) Tryd.call111 rfl rfl rfl [0] [] rfl rfl (g0 rfl) rfl rfl ?_
      rintro _ _ _ ⟨rfl, rfl, rfl⟩
      dsimp only [List.cons_append, List.nil_append]
      exact wa_l (by kernel_rfl) (k_wk (fro (hN4_1 r85 H)) [0, 1, 2, 4, 10, 11] [0] 1 [0, 0] 0 rfl rfl rfl)
    · refine k_ld (hG 0 rfl) rfl (ev_ldN (j := 0) rfl rfl Tryd.isAgg144 (sz (arr_len E32_len _ rfl) Tryd.sizeOf144) (sub_all _) rfl) (g0 rfl) rfl rfl ?_
      exact wa_l (by kernel_rfl) (k_wk (fro (hN4_38 H)) [0, 1, 2, 4, 10, 13] [0] 1 [0, 0] 0 rfl rfl rfl)
    · refine k_alloc rfl rfl Tryd.zeroValue172 (cs := (Arr.zero 0 64 : Arr UInt32 64).l.flatMap E32) rfl (g0 rfl) rfl rfl ?_
      intro b205
      exact wa_l (by kernel_rfl) (k_wk (fro (hN4_46 b205 H)) [0, 1, 2, 4, 5, 10] [0] 1 [0, 0, 0] 0 rfl rfl rfl)
    · refine k_alloc rfl rfl Tryd.zeroValue172 (cs := (Arr.zero 0 64 : Arr UInt32 64).l.flatMap E32) rfl (g0 rfl) rfl rfl ?_
      intro b245
      exact wa_l (by kernel_rfl) (k_wk (fro (hN4_50 b245 H)) [0, 1, 2, 4, 6, 10] [0] 1 [0, 0, 0] 0 rfl rfl rfl)
    · refine k_alloc rfl rfl Tryd.zeroValue144 (cs := (Arr.zero 0 8 : Arr UInt32 8).l.flatMap E32) rfl (g0 rfl) rfl rfl ?_
      intro b285
      exact wa_l (by kernel_rfl) (k_wk (fro (hN4_52 b285 H)) [0, 1, 2, 4, 7, 10] [0] 1 [0, 0, 0] 0 rfl rfl rfl)
  refine a_pu 0 rfl (ev_move rfl rfl) (by rfl) (by kernel_rfl) (by kernel_rfl) (by kernel_rfl) (fun _ _ _ h => h) (g0 rfl) rfl rfl ?_
  exact wa_l (by kernel_rfl) (k_wk (fro (hN4_0 H)) [0, 1, 2, 4, 10] [0] 1 [1, 0] 0 rfl rfl rfl)

def sha_Stream_Write_l0 (J10 : (List UInt8 × Arr UInt32 8) → Option StreamS) : Nat → (List UInt8 × Arr UInt32 8) → Option StreamS
  | 0, _ => none
  | k17 + 1, s17 =>
    bif (decide ((s17.1.length : Int) ≥ 64)) then (
    chk (0 ≤ (0 : Int) ∧ (0 : Int) ≤ (64 : Int) ∧ (64 : Int) ≤ (s17.1.length : Int)) <|
    (sha_mix s17.2 (slc s17.1 (0 : Int) (64 : Int))).bind fun r23 =>
    chk (0 ≤ (64 : Int) ∧ (64 : Int) ≤ (s17.1.length : Int) ∧ (s17.1.length : Int) ≤ (s17.1.length : Int)) <|
    sha_Stream_Write_l0 J10 k17 ((slc s17.1 (64 : Int) (s17.1.length : Int)), r23)) else (
    J10 (s17.1, s17.2))

def sha_Stream_Write (a0_s : StreamS) (a1_b : List UInt8) : Option StreamS :=
(slices_Concat ([a0_s.rest, a1_b] : List (List UInt8))).bind fun r6 =>
jn (fun (x11 : List UInt8 × Arr UInt32 8) =>
(slices_Clone x11.1).bind fun r13 =>
some (⟨x11.2, (a0_s.count + (UInt64.ofInt (a1_b.length : Int))), r13⟩ : StreamS)) fun J10 =>
sha_Stream_Write_l0 J10 Fuel (r6, a0_s.h)

theorem c_sha_Stream_Write (a0_sp : Nat) (a0_s : StreamS) (A1 : Option Addr) (c2 : Nat) (a1_b : List UInt8) (A3 : Option Addr) (c4 : Nat) (r : StreamS) (H : sha_Stream_Write a0_s a1_b = some r) : Fn Tryd.prog 57 [(.pointer (some ⟨a0_sp, 0, none⟩)), (.slice A3 a1_b.length c4)] [Sl E8 A3 c4 a1_b, Sl E8 A1 c2 a0_s.rest] [At a0_sp 0 (a0_s.h.l.flatMap E32 ++ ([v64 a0_s.count, .slice A1 a0_s.rest.length c2]))] (fun v D' G' => ∃ (A28 : Option Addr) (c29 : Nat), v = (.tuple #[]) ∧ D' = [Sl E8 A28 c29 r.rest] ∧ G' = [At a0_sp 0 (r.h.l.flatMap E32 ++ ([v64 r.count, .slice A28 r.rest.length c29]))]) := by
  unfold sha_Stream_Write at H
  refine fn_of Tryd.func57 rfl Tryd.ntmps57 rfl ?_
  intro w0 D0 G0
  dsimp only [List.cons_append, List.nil_append, initEnv, Nat.zero_add, Nat.reduceAdd]
  refine s_seq ?_
  refine s_seq ?_
  refine s_reg [0, 1] rfl ?_
  refine o_pu rfl (ev_move rfl rfl) (g0 rfl) rfl rfl ?_
  refine o_pu rfl (ev_bin rfl rfl rfl rfl (eql_ptr_pn Tryd.runUnderlying109)) (g0 rfl) rfl rfl ?_
  refine o_nil ?_
  refine q_then ?_
  refine s_cond_f rfl ?_
  refine s_skip ?_
  refine q_then ?_
  refine s_seq ?_
  refine s_reg [0, 1, 2, 3, 4, 5, 6, 7, 8, 9, 10] rfl ?_
  refine o_pu rfl (ev_move rfl rfl) (g0 rfl) rfl rfl ?_
  refine o_pu rfl (ev_nilCheck rfl rfl) (g0 rfl) rfl rfl ?_
  refine o_pu rfl (ev_fieldAddr rfl rfl Tryd.runUnderlying147 rfl Tryd.sizeOf123 rfl rfl) (g0 rfl) rfl rfl ?_
  refine o_ld (hG 0 rfl) rfl (ev_ld1 (j := 8) rfl rfl Tryd.isAgg123 (sub_skip (n := 8) (sub_nth (j := 0) rfl) (arr_len E32_len _ rfl) rfl) rfl) (g0 rfl) rfl rfl ?_
  refine o_pu rfl (ev_move rfl rfl) (g0 rfl) rfl rfl ?_
  refine o_pu rfl (ev_len_slice rfl rfl Tryd.runUnderlying22) (g0 rfl) rfl rfl ?_
  refine o_pu rfl (ev_conv rfl rfl (conv_i_u64 _ Tryd.runUnderlying3 Tryd.runUnderlying123)) (g0 rfl) rfl rfl ?_
  refine o_pu rfl (ev_bin rfl rfl rfl rfl (add_64 _ _)) (g0 rfl) rfl rfl ?_
  refine o_pu rfl (ev_nilCheck rfl rfl) (g0 rfl) rfl rfl ?_
  refine o_pu rfl (ev_fieldAddr rfl rfl Tryd.runUnderlying147 rfl Tryd.sizeOf123 rfl rfl) (g0 rfl) rfl rfl ?_
  refine oc (k_st (j := 8) rfl rfl rfl rfl (vs := [v64 (a0_s.count + (UInt64.ofInt (a1_b.length : Int)))]) rfl (sz rfl Tryd.sizeOf123) rfl 0 rfl (spl_skip (n := 8) (spl_lit (j := 0) (cs' := [v64 (a0_s.count + (UInt64.ofInt (a1_b.length : Int))), .slice A1 a0_s.rest.length c2]) rfl rfl) (arr_len E32_len _ rfl) rfl) rfl (g0 rfl) rfl ?_)
  refine o_nil ?_
  refine q_then ?_
  refine s_seq ?_
  refine s_reg [0, 1, 2, 3, 4, 5, 6, 7] rfl ?_
  refine o_pu rfl (ev_move rfl rfl) (g0 rfl) rfl rfl ?_
  refine o_pu rfl (ev_nilCheck rfl rfl) (g0 rfl) rfl rfl ?_
  refine o_pu rfl (ev_fieldAddr rfl rfl Tryd.runUnderlying147 rfl Tryd.sizeOf22 rfl rfl) (g0 rfl) rfl rfl ?_
  refine o_ld (hG 0 rfl) rfl (ev_ld1 (j := 9) rfl rfl Tryd.isAgg22 (sub_skip (n := 8) (sub_nth (j := 1) rfl) (arr_len E32_len _ rfl) rfl) rfl) (g0 rfl) rfl rfl ?_
  refine o_pu rfl (ev_move rfl rfl) (g0 rfl) rfl rfl ?_
  refine oc (k_buildSlice (f := EV) [.slice A1 a0_s.rest.length c2, .slice A3 a1_b.length c4] rfl rfl rfl rfl Tryd.runUnderlying171 Tryd.sizeOf22 Tryd.zeroValue22 rfl rfl (fill_all rfl rfl (by simp) rfl rfl) (g0 rfl) rfl rfl ?_)
  intro b5
  refine k_sls [(A1, c2, a0_s.rest), (A3, c4, a1_b)] 0 rfl [2, 1] rfl ?_
  obtain ⟨r6, Hc7, H⟩ := bind_some' H
  refine oc (k_call (c_slices_Concat ([a0_s.rest, a1_b] : List (List UInt8)) (some ⟨b5, 0, none⟩) 2 r6 Hc7) Tryd.call82 rfl rfl rfl [0] [] rfl rfl (g0 rfl) rfl rfl ?_)
  rintro _ _ _ ⟨A8, c9, rfl, rfl, rfl⟩
  dsimp only [List.cons_append, List.nil_append]
  refine o_pu rfl (ev_assign rfl rfl) (g0 rfl) rfl rfl ?_
  refine o_nil ?_
  refine q_then ?_
  refine s_seq ?_
  refine q_join (fun (x11 : List UInt8 × Arr UInt32 8) (y12 : Option Addr × Nat) => ⟨Sl E8 y12.1 y12.2 x11.1 :: Sl E8 A8 c9 r6 :: Sls (some ⟨b5, 0, none⟩) 2 ([a0_s.rest, a1_b] : List (List UInt8)) :: Sl EV (some ⟨b5, 0, none⟩) 2 [.slice A1 a0_s.rest.length c2, .slice A3 a1_b.length c4] :: Sl E8 A3 c4 a1_b :: Sl E8 A1 c2 a0_s.rest :: D0, At a0_sp 0 (x11.2.l.flatMap E32 ++ ([v64 (a0_s.count + (UInt64.ofInt (a1_b.length : Int))), .slice A1 a0_s.rest.length c2])) :: Spare A8 r6.length c9 1 :: G0, [(0, (.pointer (some ⟨a0_sp, 0, none⟩))), (4, (.slice y12.1 x11.1.length y12.2))]⟩) H ?_ ?_
  · intro x11 y12 H
    dsimp only
    refine q_then ?_
    refine s_reg [0, 1, 2, 3, 4, 5] rfl ?_
    refine o_pu rfl (ev_move rfl rfl) (g0 rfl) rfl rfl ?_
    refine o_pu rfl (ev_move rfl rfl) (g0 rfl) rfl rfl ?_
    obtain ⟨r13, Hc14, H⟩ := bind_some' H
    refine oc (k_call (c_slices_Clone x11.1 y12.1 y12.2 r13 Hc14) Tryd.call46 rfl rfl rfl [0] [] rfl rfl (g0 rfl) rfl rfl ?_)
    rintro _ _ _ ⟨A15, c16, rfl, rfl, rfl⟩
    dsimp only [List.cons_append, List.nil_append]
    refine o_pu rfl (ev_nilCheck rfl rfl) (g0 rfl) rfl rfl ?_
    refine o_pu rfl (ev_fieldAddr rfl rfl Tryd.runUnderlying147 rfl Tryd.sizeOf22 rfl rfl) (g0 rfl) rfl rfl ?_
    refine oc (k_st (j := 9) rfl rfl rfl rfl (vs := [.slice A15 r13.length c16]) rfl (sz rfl Tryd.sizeOf22) rfl 1 rfl (spl_skip (n := 8) (spl_lit (j := 1) (cs' := [v64 (a0_s.count + (UInt64.ofInt (a1_b.length : Int))), .slice A15 r13.length c16]) rfl rfl) (arr_len E32_len _ rfl) rfl) rfl (g0 rfl) rfl ?_)
    refine o_nil ?_
    cases H
    exact q_end_n (rs_0 Tryd.results57) ⟨A15, c16, rfl, rfl, rfl⟩ [0] rfl 7 rfl [1] rfl 2 rfl
  · intro J10 H
    refine s_block ?_
    refine s_loop (k_wk (loop_ind (fun (s17 : List UInt8 × Arr UInt32 8) (y17 : Option Addr × Nat) => ⟨Sl E8 y17.1 y17.2 s17.1 :: Sl E8 A8 c9 r6 :: Sls (some ⟨b5, 0, none⟩) 2 ([a0_s.rest, a1_b] : List (List UInt8)) :: Sl EV (some ⟨b5, 0, none⟩) 2 [.slice A1 a0_s.rest.length c2, .slice A3 a1_b.length c4] :: Sl E8 A3 c4 a1_b :: Sl E8 A1 c2 a0_s.rest :: D0, At a0_sp 0 (s17.2.l.flatMap E32 ++ ([v64 (a0_s.count + (UInt64.ofInt (a1_b.length : Int))), .slice A1 a0_s.rest.length c2])) :: Spare A8 r6.length c9 1 :: G0, [(0, (.pointer (some ⟨a0_sp, 0, none⟩))), (4, (.slice y17.1 s17.1.length y17.2))]⟩) (sha_Stream_Write_l0 _) _ (fun _ => rfl) ?_ Fuel (r6, a0_s.h) (A8, c9) H) [0, 4] [0, 0, 1, 2, 3, 4] 5 [1, 0] 0 rfl rfl rfl)
    intro k17 s17 y17 ih H
    dsimp only
    rw [sha_Stream_Write_l0] at H
    refine s_seq ?_
    refine s_seq ?_
    refine s_reg [0, 1, 2] rfl ?_
    refine o_pu rfl (ev_move rfl rfl) (g0 rfl) rfl rfl ?_
    refine o_pu rfl (ev_len_slice rfl rfl Tryd.runUnderlying22) (g0 rfl) rfl rfl ?_
    refine o_pu rfl (ev_bin rfl rfl rfl rfl (geq_i _ 64)) (g0 rfl) rfl rfl ?_
    refine o_nil ?_
    refine q_then ?_
    refine s_cond rfl ?_ ?_
    · intro hb18
      have H := cnd_t H hb18
      refine s_skip ?_
      refine q_then ?_
      refine s_seq ?_
      refine s_block ?_
      obtain ⟨hk22, H⟩ := chk_some H
      refine k_sub (a := (0 : Int)) (b := (64 : Int)) 0 rfl E8_len hk22 ?_
      intro A19 c20 hA21
      refine s_draw mixed [(4, [7, 10], Has a0_sp 0 (s17.2.l.flatMap E32 ++ ([v64 (a0_s.count + (UInt64.ofInt (a1_b.length : Int))), .slice A1 a0_s.rest.length c2])))] ?_
      refine a_pu 0 rfl (ev_move rfl rfl) (by rfl) (by kernel_rfl) (by kernel_rfl) (by kernel_rfl) (fun _ _ _ h => h) (g0 rfl) rfl rfl ?_
      refine a_pu 1 rfl (ev_move rfl rfl) (by rfl) (by kernel_rfl) (by kernel_rfl) (by kernel_rfl) (fun _ _ _ h => h) (g0 rfl) rfl rfl ?_
      refine a_pu 2 rfl (ev_nilCheck rfl rfl) (by rfl) (by kernel_rfl) (by kernel_rfl) (by kernel_rfl) (fun _ _ _ h => h) (g0 rfl) rfl rfl ?_
      refine a_pu 3 rfl (ev_fieldAddr rfl rfl Tryd.runUnderlying147 rfl Tryd.sizeOf144 rfl rfl) (by rfl) (by kernel_rfl) (by kernel_rfl) (by kernel_rfl) (fun _ _ _ h => h) (g0 rfl) rfl rfl ?_
      refine a_ld 4 0 rfl rfl (ev_ldN (j := 0) rfl rfl Tryd.isAgg144 (sz (arr_len E32_len _ rfl) Tryd.sizeOf144) (sub_head (sub_all _)) rfl) (by kernel_rfl) (by rfl) (by kernel_rfl) (by kernel_rfl) (by kernel_rfl) (by kernel_rfl) (fun _ _ _ h => h) (g0 rfl) rfl rfl ?_
      refine a_pu 5 rfl (ev_move rfl rfl) (by rfl) (by kernel_rfl) (by kernel_rfl) (by kernel_rfl) (fun _ _ _ h => h) (g0 rfl) rfl rfl ?_
      refine a_pu 6 rfl (ev_slice_sl (ka := .i64) (a := (0 : Int)) (b := (64 : Int)) rfl rfl Tryd.runUnderlying22 Tryd.sizeOf5 (.inl ⟨rfl, rfl⟩) (.inr rfl) hk22 hA21) (by rfl) (by kernel_rfl) (by kernel_rfl) (by kernel_rfl) (fun _ _ _ h => h) (g0 rfl) rfl rfl ?_
      obtain ⟨r23, Hc24, H⟩ := bind_some' H
      refine ac 7 (by kernel_rfl) (sl_cons (hG 0 rfl) sl_nil) (k_call (c_sha_mix s17.2 (slc s17.1 (0 : Int) (64 : Int)) A19 c20 r23 Hc24) Tryd.call83 rfl rfl rfl [0] [] rfl rfl (g0 rfl) rfl rfl ?_)
      rintro _ _ _ ⟨rfl, rfl, rfl⟩
      dsimp only [List.cons_append, List.nil_append]
      refine a_pu 8 rfl (ev_nilCheck rfl rfl) (by rfl) (by kernel_rfl) (by kernel_rfl) (by kernel_rfl) (fun _ _ _ h => h) (g0 rfl) rfl rfl ?_
      refine a_pu 9 rfl (ev_fieldAddr rfl rfl Tryd.runUnderlying147 rfl Tryd.sizeOf144 rfl rfl) (by rfl) (by kernel_rfl) (by kernel_rfl) (by kernel_rfl) (fun _ _ _ h => h) (g0 rfl) rfl rfl ?_
      refine ac 10 (by kernel_rfl) (sl_end (by kernel_rfl) sl_nil) (k_st (j := 0) rfl rfl rfl rfl (vs := r23.l.flatMap E32) rfl (sz (arr_len E32_len _ rfl) Tryd.sizeOf144) (arr_sc E32_one _) 0 rfl (spl_head (spl_all ((arr_len E32_len _ rfl).trans (arr_len E32_len _ rfl).symm))) rfl (g0 rfl) rfl ?_)
      refine a_done (by kernel_rfl) (sl_end (by kernel_rfl) sl_nil) ?_
      refine q_block ?_
      refine q_then ?_
      refine s_reg [0, 1, 2] rfl ?_
      refine o_pu rfl (ev_move rfl rfl) (g0 rfl) rfl rfl ?_
      obtain ⟨hk27, H⟩ := chk_some H
      refine oc (k_slice (kb := .i64) (a := (64 : Int)) (b := (s17.1.length : Int)) 1 rfl rfl rfl rfl E8_len Tryd.runUnderlying22 Tryd.sizeOf5 (.inr rfl) (.inl ⟨rfl, rfl⟩) hk27 (g0 rfl) rfl rfl ?_)
      intro A25 c26
      refine o_pu rfl (ev_assign rfl rfl) (g0 rfl) rfl rfl ?_
      refine o_nil ?_
      refine q_loop ?_
      exact k_wk (ih ((slc s17.1 (64 : Int) (s17.1.length : Int)), r23) (A25, c26) H) [0, 4] [0, 3, 4, 5, 6, 7] 8 [0, 0] 0 rfl rfl rfl
    · intro hb18
      have H := cnd_f H hb18
      refine s_exit ?_
      refine q_then_x ?_
      refine q_then_x ?_
      refine q_block_x ?_
      exact k_wk (J10 (s17.1, s17.2) (y17.1, y17.2) H) [0, 4] [0, 1, 2, 3, 4, 5] 6 [0, 0] 0 rfl rfl rfl

def sha_Stream_Sum_l0 (J23 : (Arr UInt32 8) → Option (Arr UInt8 32)) : Nat → (List UInt8 × Arr UInt32 8) → Option (Arr UInt8 32)
  | 0, _ => none
  | k34 + 1, s34 =>
    bif (decide ((s34.1.length : Int) > 0)) then (
    chk (0 ≤ (0 : Int) ∧ (0 : Int) ≤ (64 : Int) ∧ (64 : Int) ≤ (s34.1.length : Int)) <|
    (sha_mix s34.2 (slc s34.1 (0 : Int) (64 : Int))).bind fun r40 =>
    chk (0 ≤ (64 : Int) ∧ (64 : Int) ≤ (s34.1.length : Int) ∧ (s34.1.length : Int) ≤ (s34.1.length : Int)) <|
    sha_Stream_Sum_l0 J23 k34 ((slc s34.1 (64 : Int) (s34.1.length : Int)), r40)) else (
    J23 s34.2)

def sha_Stream_Sum_l1 (J12 : (List UInt8) → Option (Arr UInt8 32)) : Nat → (List UInt8) → Option (Arr UInt8 32)
  | 0, _ => none
  | k45 + 1, s45 =>
    bif (((s45.length : Int).tmod 64) != 56) then (
    chk (s45.length + ([0] : List UInt8).length ≤ 68719476736) <|
    sha_Stream_Sum_l1 J12 k45 (s45 ++ ([0] : List UInt8))) else (
    J12 s45)

def sha_Stream_Sum (a0_s : StreamS) : Option (Arr UInt8 32) :=
(slices_Clone a0_s.rest).bind fun r4 =>
chk (r4.length + ([128] : List UInt8).length ≤ 68719476736) <|
jn (fun (x13 : List UInt8) =>
(sha_long (a0_s.count * (8 : UInt64))).bind fun r16 =>
chk (x13.length + r16.length ≤ 68719476736) <|
jn (fun (x24 : Arr UInt32 8) =>
(sha_told x24).bind fun r26 =>
chk (32 ≤ r26.length) <|
some (Arr.of 0 32 r26)) fun J23 =>
sha_Stream_Sum_l0 J23 Fuel ((x13 ++ r16), a0_s.h)) fun J12 =>
sha_Stream_Sum_l1 J12 Fuel (r4 ++ ([128] : List UInt8))

theorem c_sha_Stream_Sum (a0_sp : Nat) (a0_s : StreamS) (A1 : Option Addr) (c2 : Nat) (r : (Arr UInt8 32)) (H : sha_Stream_Sum a0_s = some r) : Fn Tryd.prog 59 [(.pointer (some ⟨a0_sp, 0, none⟩))] [Sl E8 A1 c2 a0_s.rest] [At a0_sp 0 (a0_s.h.l.flatMap E32 ++ ([v64 a0_s.count, .slice A1 a0_s.rest.length c2]))] (fun v D' G' => v = (.agg (r.l.flatMap E8).toArray) ∧ D' = [] ∧ G' = [At a0_sp 0 (a0_s.h.l.flatMap E32 ++ ([v64 a0_s.count, .slice A1 a0_s.rest.length c2]))]) := by
  unfold sha_Stream_Sum at H
  refine fn_of Tryd.func59 rfl Tryd.ntmps59 rfl ?_
  intro w0 D0 G0
  dsimp only [List.cons_append, List.nil_append, initEnv, Nat.zero_add, Nat.reduceAdd]
  refine s_seq ?_
  refine s_reg [0] rfl ?_
  refine oc (k_alloc rfl rfl Tryd.zeroValue23 (cs := (Arr.zero 0 32 : Arr UInt8 32).l.flatMap E8) rfl (g0 rfl) rfl rfl ?_)
  intro b3
  refine o_nil ?_
  refine q_then ?_
  refine s_seq ?_
  refine s_seq ?_
  refine s_reg [0, 1] rfl ?_
  refine o_pu rfl (ev_move rfl rfl) (g0 rfl) rfl rfl ?_
  refine o_pu rfl (ev_bin rfl rfl rfl rfl (eql_ptr_pn Tryd.runUnderlying109)) (g0 rfl) rfl rfl ?_
  refine o_nil ?_
  refine q_then ?_
  refine s_cond_f rfl ?_
  refine s_skip ?_
  refine q_then ?_
  refine s_seq ?_
  refine s_reg [0, 1, 2, 3, 4, 5, 6, 7] rfl ?_
  refine o_pu rfl (ev_move rfl rfl) (g0 rfl) rfl rfl ?_
  refine o_pu rfl (ev_nilCheck rfl rfl) (g0 rfl) rfl rfl ?_
  refine o_pu rfl (ev_fieldAddr rfl rfl Tryd.runUnderlying147 rfl Tryd.sizeOf22 rfl rfl) (g0 rfl) rfl rfl ?_
  refine o_ld (hG 1 rfl) rfl (ev_ld1 (j := 9) rfl rfl Tryd.isAgg22 (sub_skip (n := 8) (sub_nth (j := 1) rfl) (arr_len E32_len _ rfl) rfl) rfl) (g0 rfl) rfl rfl ?_
  obtain ⟨r4, Hc5, H⟩ := bind_some' H
  refine oc (k_call (c_slices_Clone a0_s.rest A1 c2 r4 Hc5) Tryd.call46 rfl rfl rfl [0] [] rfl rfl (g0 rfl) rfl rfl ?_)
  rintro _ _ _ ⟨A6, c7, rfl, rfl, rfl⟩
  dsimp only [List.cons_append, List.nil_append]
  refine oc (k_buildSlice (f := E8) ([128] : List UInt8) rfl rfl rfl rfl Tryd.runUnderlying22 Tryd.sizeOf5 Tryd.zeroValue5 rfl rfl (fill_all rfl rfl (by simp) rfl rfl) (g0 rfl) rfl rfl ?_)
  intro b8
  obtain ⟨hk11, H⟩ := chk_some H
  refine oc (k_append 1 0 0 rfl rfl rfl rfl rfl rfl rfl E8_len E8_one Tryd.underlying22 Tryd.underlying22 info5 rfl rfl rfl rfl hk11 (g0 rfl) rfl rfl ?_)
  intro A9 c10
  refine o_pu rfl (ev_assign rfl rfl) (g0 rfl) rfl rfl ?_
  refine o_nil ?_
  refine q_then ?_
  refine s_seq ?_
  refine q_join (fun (x13 : List UInt8) (y14 : Option Addr × Nat) => ⟨Sl E8 y14.1 y14.2 x13 :: Sl E8 A9 c10 (r4 ++ ([128] : List UInt8)) :: Sl E8 (some ⟨b8, 0, none⟩) 1 ([128] : List UInt8) :: Sl E8 A6 c7 r4 :: Sl E8 A1 c2 a0_s.rest :: D0, At b3 0 ((Arr.zero 0 32 : Arr UInt8 32).l.flatMap E8) :: At a0_sp 0 (a0_s.h.l.flatMap E32 ++ ([v64 a0_s.count, .slice A1 a0_s.rest.length c2])) :: Spare y14.1 x13.length y14.2 1 :: G0, [(0, (.pointer (some ⟨a0_sp, 0, none⟩))), (2, (.pointer (some ⟨b3, 0, none⟩))), (3, (.slice y14.1 x13.length y14.2))]⟩) H ?_ ?_
  · intro x13 y14 H
    dsimp only
    refine q_then ?_
    refine s_seq ?_
    refine s_reg [0, 1, 2, 3, 4, 5] rfl ?_
    refine o_pu rfl (ev_move rfl rfl) (g0 rfl) rfl rfl ?_
    refine o_pu rfl (ev_nilCheck rfl rfl) (g0 rfl) rfl rfl ?_
    refine o_pu rfl (ev_fieldAddr rfl rfl Tryd.runUnderlying147 rfl Tryd.sizeOf144 rfl rfl) (g0 rfl) rfl rfl ?_
    refine o_ld (hG 1 rfl) rfl (ev_ldN (j := 0) rfl rfl Tryd.isAgg144 (sz (arr_len E32_len _ rfl) Tryd.sizeOf144) (sub_head (sub_all _)) rfl) (g0 rfl) rfl rfl ?_
    refine oc (k_alloc rfl rfl Tryd.zeroValue144 (cs := (Arr.zero 0 8 : Arr UInt32 8).l.flatMap E32) rfl (g0 rfl) rfl rfl ?_)
    intro b15
    refine oc (k_st (j := 0) rfl rfl rfl rfl (vs := a0_s.h.l.flatMap E32) rfl (sz (arr_len E32_len _ rfl) Tryd.sizeOf144) (arr_sc E32_one _) 0 rfl (spl_all ((arr_len E32_len _ rfl).trans (arr_len E32_len _ rfl).symm)) rfl (g0 rfl) rfl ?_)
    refine o_nil ?_
    refine q_then ?_
    refine s_seq ?_
    refine s_seq ?_
    refine s_reg [0, 1, 2, 3, 4, 5, 6, 7, 8] rfl ?_
    refine o_pu rfl (ev_move rfl rfl) (g0 rfl) rfl rfl ?_
    refine o_pu rfl (ev_move rfl rfl) (g0 rfl) rfl rfl ?_
    refine o_pu rfl (ev_nilCheck rfl rfl) (g0 rfl) rfl rfl ?_
    refine o_pu rfl (ev_fieldAddr rfl rfl Tryd.runUnderlying147 rfl Tryd.sizeOf123 rfl rfl) (g0 rfl) rfl rfl ?_
    refine o_ld (hG 2 rfl) rfl (ev_ld1 (j := 8) rfl rfl Tryd.isAgg123 (sub_skip (n := 8) (sub_nth (j := 0) rfl) (arr_len E32_len _ rfl) rfl) rfl) (g0 rfl) rfl rfl ?_
    refine o_pu rfl (ev_bin rfl rfl rfl rfl (mul_64 _ 8)) (g0 rfl) rfl rfl ?_
    obtain ⟨r16, Hc17, H⟩ := bind_some' H
    refine oc (k_call (c_sha_long (a0_s.count * (8 : UInt64)) r16 Hc17) Tryd.call84 rfl rfl rfl [] [] rfl rfl (g0 rfl) rfl rfl ?_)
    rintro _ _ _ ⟨A18, c19, rfl, rfl, rfl⟩
    dsimp only [List.cons_append, List.nil_append]
    obtain ⟨hk22, H⟩ := chk_some H
    refine oc (k_append 1 0 4 rfl rfl rfl rfl rfl rfl rfl E8_len E8_one Tryd.underlying22 Tryd.underlying22 info5 rfl rfl rfl rfl hk22 (g0 rfl) rfl rfl ?_)
    intro A20 c21
    refine o_pu rfl (ev_assign rfl rfl) (g0 rfl) rfl rfl ?_
    refine o_nil ?_
    refine q_then ?_
    refine q_join (fun (x24 : Arr UInt32 8) (y25 : Unit) => ⟨Sl E8 A20 c21 (x13 ++ r16) :: Sl E8 A18 c19 r16 :: Sl E8 y14.1 y14.2 x13 :: Sl E8 A9 c10 (r4 ++ ([128] : List UInt8)) :: Sl E8 (some ⟨b8, 0, none⟩) 1 ([128] : List UInt8) :: Sl E8 A6 c7 r4 :: Sl E8 A1 c2 a0_s.rest :: D0, At b15 0 (x24.l.flatMap E32) :: At b3 0 ((Arr.zero 0 32 : Arr UInt8 32).l.flatMap E8) :: At a0_sp 0 (a0_s.h.l.flatMap E32 ++ ([v64 a0_s.count, .slice A1 a0_s.rest.length c2])) :: Spare A18 r16.length c19 1 :: Spare A20 (x13 ++ r16).length c21 1 :: G0, [(2, (.pointer (some ⟨b3, 0, none⟩))), (4, (.pointer (some ⟨b15, 0, none⟩)))]⟩) H ?_ ?_
    · intro x24 y25 H
      dsimp only
      refine q_then ?_
      refine s_seq ?_
      refine s_reg [0, 1, 2, 3, 4] rfl ?_
      refine o_ld (hG 0 rfl) rfl (ev_ldN (j := 0) rfl rfl Tryd.isAgg144 (sz (arr_len E32_len _ rfl) Tryd.sizeOf144) (sub_all _) rfl) (g0 rfl) rfl rfl ?_
      obtain ⟨r26, Hc27, H⟩ := bind_some' H
      refine oc (k_call (c_sha_told x24 r26 Hc27) Tryd.call85 rfl rfl rfl [] [] rfl rfl (g0 rfl) rfl rfl ?_)
      rintro _ _ _ ⟨A28, c29, rfl, rfl, rfl⟩
      dsimp only [List.cons_append, List.nil_append]
      obtain ⟨hk33, H⟩ := chk_some H
      refine k_sl_ro 0 rfl (ne_of_len (m := 32) E8_len rfl rfl hk33) ?_
      intro b30 q31 hA32
      refine o_pu rfl (ev_arrayAt rfl rfl Tryd.runUnderlying23 hk33) (g0 rfl) rfl rfl ?_
      refine k_eq (v' := .pointer (some ⟨b30, q31, none⟩)) 45 rfl (by rw [hA32]) ?_
      refine o_ld (hD 0 rfl) rfl (ev_ldN (j := 0) rfl rfl Tryd.isAgg23 (sz (arr_len E8_len _ rfl) Tryd.sizeOf23) (sub_of (m := 32) 0 _ hk33) rfl) (g0 rfl) rfl rfl ?_
      refine oc (k_st (j := 0) rfl rfl rfl rfl (vs := (Arr.of 0 32 r26).l.flatMap E8) rfl (sz (arr_len E8_len _ rfl) Tryd.sizeOf23) (arr_sc E8_one _) 2 rfl (spl_all ((arr_len E8_len _ rfl).trans (arr_len E8_len _ rfl).symm)) rfl (g0 rfl) rfl ?_)
      refine o_nil ?_
      refine q_then ?_
      refine s_ret ?_
      cases H
      exact q_end (rs_1 Tryd.results59 (rv_cell (j := 0) rfl (hG 2 rfl) Tryd.isAgg23 (sz (arr_len E8_len _ rfl) Tryd.sizeOf23) (sub_all _) rfl)) ⟨rfl, rfl, rfl⟩ [] rfl 9 rfl [3] rfl 5 rfl
    · intro J23 H
      refine s_block ?_
      refine s_loop (k_wk (loop_ind (fun (s34 : List UInt8 × Arr UInt32 8) (y34 : Option Addr × Nat) => ⟨Sl E8 y34.1 y34.2 s34.1 :: Sl E8 A20 c21 (x13 ++ r16) :: Sl E8 A18 c19 r16 :: Sl E8 y14.1 y14.2 x13 :: Sl E8 A9 c10 (r4 ++ ([128] : List UInt8)) :: Sl E8 (some ⟨b8, 0, none⟩) 1 ([128] : List UInt8) :: Sl E8 A6 c7 r4 :: Sl E8 A1 c2 a0_s.rest :: D0, At b15 0 (s34.2.l.flatMap E32) :: At b3 0 ((Arr.zero 0 32 : Arr UInt8 32).l.flatMap E8) :: At a0_sp 0 (a0_s.h.l.flatMap E32 ++ ([v64 a0_s.count, .slice A1 a0_s.rest.length c2])) :: Spare A18 r16.length c19 1 :: Spare A20 (x13 ++ r16).length c21 1 :: G0, [(2, (.pointer (some ⟨b3, 0, none⟩))), (3, (.slice y34.1 s34.1.length y34.2)), (4, (.pointer (some ⟨b15, 0, none⟩)))]⟩) (sha_Stream_Sum_l0 _) _ (fun _ => rfl) ?_ Fuel ((x13 ++ r16), a0_s.h) (A20, c21) H) [2, 3, 4] [0, 0, 1, 2, 3, 4, 5, 6] 7 [1, 1, 1, 0, 0] 0 rfl rfl rfl)
      intro k34 s34 y34 ih H
      dsimp only
      rw [sha_Stream_Sum_l0] at H
      refine s_seq ?_
      refine s_seq ?_
      refine s_reg [0, 1, 2] rfl ?_
      refine o_pu rfl (ev_move rfl rfl) (g0 rfl) rfl rfl ?_
      refine o_pu rfl (ev_len_slice rfl rfl Tryd.runUnderlying22) (g0 rfl) rfl rfl ?_
      refine o_pu rfl (ev_bin rfl rfl rfl rfl (gtr_i _ 0)) (g0 rfl) rfl rfl ?_
      refine o_nil ?_
      refine q_then ?_
      refine s_cond rfl ?_ ?_
      · intro hb35
        have H := cnd_t H hb35
        refine s_skip ?_
        refine q_then ?_
        refine s_seq ?_
        refine s_block ?_
        obtain ⟨hk39, H⟩ := chk_some H
        refine k_sub (a := (0 : Int)) (b := (64 : Int)) 0 rfl E8_len hk39 ?_
        intro A36 c37 hA38
        refine s_draw mixed [(0, [3, 4], Has b15 0 (s34.2.l.flatMap E32))] ?_
        refine a_ld 0 0 rfl rfl (ev_ldN (j := 0) rfl rfl Tryd.isAgg144 (sz (arr_len E32_len _ rfl) Tryd.sizeOf144) (sub_all _) rfl) (by kernel_rfl) (by rfl) (by kernel_rfl) (by kernel_rfl) (by kernel_rfl) (by kernel_rfl) (fun _ _ _ h => h) (g0 rfl) rfl rfl ?_
        refine a_pu 1 rfl (ev_move rfl rfl) (by rfl) (by kernel_rfl) (by kernel_rfl) (by kernel_rfl) (fun _ _ _ h => h) (g0 rfl) rfl rfl ?_
        refine a_pu 2 rfl (ev_slice_sl (ka := .i64) (a := (0 : Int)) (b := (64 : Int)) rfl rfl Tryd.runUnderlying22 Tryd.sizeOf5 (.inl ⟨rfl, rfl⟩) (.inr rfl) hk39 hA38) (by rfl) (by kernel_rfl) (by kernel_rfl) (by kernel_rfl) (fun _ _ _ h => h) (g0 rfl) rfl rfl ?_
        obtain ⟨r40, Hc41, H⟩ := bind_some' H
        refine ac 3 (by kernel_rfl) (sl_cons (hG 0 rfl) sl_nil) (k_call (c_sha_mix s34.2 (slc s34.1 (0 : Int) (64 : Int)) A36 c37 r40 Hc41) Tryd.call83 rfl rfl rfl [0] [] rfl rfl (g0 rfl) rfl rfl ?_)
        rintro _ _ _ ⟨rfl, rfl, rfl⟩
        dsimp only [List.cons_append, List.nil_append]
        refine ac 4 (by kernel_rfl) (sl_end (by kernel_rfl) sl_nil) (k_st (j := 0) rfl rfl rfl rfl (vs := r40.l.flatMap E32) rfl (sz (arr_len E32_len _ rfl) Tryd.sizeOf144) (arr_sc E32_one _) 0 rfl (spl_all ((arr_len E32_len _ rfl).trans (arr_len E32_len _ rfl).symm)) rfl (g0 rfl) rfl ?_)
        refine a_done (by kernel_rfl) (sl_end (by kernel_rfl) sl_nil) ?_
        refine q_block ?_
        refine q_then ?_
        refine s_reg [0, 1, 2] rfl ?_
        refine o_pu rfl (ev_move rfl rfl) (g0 rfl) rfl rfl ?_
        obtain ⟨hk44, H⟩ := chk_some H
        refine oc (k_slice (kb := .i64) (a := (64 : Int)) (b := (s34.1.length : Int)) 1 rfl rfl rfl rfl E8_len Tryd.runUnderlying22 Tryd.sizeOf5 (.inr rfl) (.inl ⟨rfl, rfl⟩) hk44 (g0 rfl) rfl rfl ?_)
        intro A42 c43
        refine o_pu rfl (ev_assign rfl rfl) (g0 rfl) rfl rfl ?_
        refine o_nil ?_
        refine q_loop ?_
        exact k_wk (ih ((slc s34.1 (64 : Int) (s34.1.length : Int)), r40) (A42, c43) H) [2, 3, 4] [0, 3, 4, 5, 6, 7, 8, 9] 10 [0, 0, 0, 0, 0] 0 rfl rfl rfl
      · intro hb35
        have H := cnd_f H hb35
        refine s_exit ?_
        refine q_then_x ?_
        refine q_then_x ?_
        refine q_block_x ?_
        exact k_wk (J23 s34.2 () H) [2, 4] [1, 2, 3, 4, 5, 6, 7] 8 [0, 0, 0, 0, 0] 0 rfl rfl rfl
  · intro J12 H
    refine s_block ?_
    refine s_loop (k_wk (loop_ind (fun (s45 : List UInt8) (y45 : Option Addr × Nat) => ⟨Sl E8 y45.1 y45.2 s45 :: Sl E8 A9 c10 (r4 ++ ([128] : List UInt8)) :: Sl E8 (some ⟨b8, 0, none⟩) 1 ([128] : List UInt8) :: Sl E8 A6 c7 r4 :: Sl E8 A1 c2 a0_s.rest :: D0, At b3 0 ((Arr.zero 0 32 : Arr UInt8 32).l.flatMap E8) :: At a0_sp 0 (a0_s.h.l.flatMap E32 ++ ([v64 a0_s.count, .slice A1 a0_s.rest.length c2])) :: Spare y45.1 s45.length y45.2 1 :: G0, [(0, (.pointer (some ⟨a0_sp, 0, none⟩))), (2, (.pointer (some ⟨b3, 0, none⟩))), (3, (.slice y45.1 s45.length y45.2))]⟩) (sha_Stream_Sum_l1 _) _ (fun _ => rfl) ?_ Fuel (r4 ++ ([128] : List UInt8)) (A9, c10) H) [0, 2, 3] [0, 0, 1, 2, 3] 4 [1, 1, 0] 0 rfl rfl rfl)
    intro k45 s45 y45 ih H
    dsimp only
    rw [sha_Stream_Sum_l1] at H
    refine s_seq ?_
    refine s_seq ?_
    refine s_reg [0, 1, 2, 3] rfl ?_
    refine o_pu rfl (ev_move rfl rfl) (g0 rfl) rfl rfl ?_
    refine o_pu rfl (ev_len_slice rfl rfl Tryd.runUnderlying22) (g0 rfl) rfl rfl ?_
    refine o_pu rfl (ev_bin rfl rfl rfl rfl (rem_i _ 64 rfl)) (g0 rfl) rfl rfl ?_
    refine o_pu rfl (ev_bin rfl rfl rfl rfl (neq_i _ 56)) (g0 rfl) rfl rfl ?_
    refine o_nil ?_
    refine q_then ?_
    refine s_cond rfl ?_ ?_
    · intro hb46
      have H := cnd_t H hb46
      refine s_skip ?_
      refine q_then ?_
      refine s_block ?_
      refine s_reg [0, 1, 2, 3] rfl ?_
      refine o_pu rfl (ev_move rfl rfl) (g0 rfl) rfl rfl ?_
      refine oc (k_buildSlice (f := E8) ([0] : List UInt8) rfl rfl rfl rfl Tryd.runUnderlying22 Tryd.sizeOf5 Tryd.zeroValue5 rfl rfl (fill_all rfl rfl (by simp) rfl rfl) (g0 rfl) rfl rfl ?_)
      intro b47
      obtain ⟨hk50, H⟩ := chk_some H
      refine oc (k_append 1 0 2 rfl rfl rfl rfl rfl rfl rfl E8_len E8_one Tryd.underlying22 Tryd.underlying22 info5 rfl rfl rfl rfl hk50 (g0 rfl) rfl rfl ?_)
      intro A48 c49
      refine o_pu rfl (ev_assign rfl rfl) (g0 rfl) rfl rfl ?_
      refine o_nil ?_
      refine q_block ?_
      refine q_loop ?_
      exact k_wk (ih (s45 ++ ([0] : List UInt8)) (A48, c49) H) [0, 2, 3] [0, 3, 4, 5, 6] 7 [0, 0, 0] 0 rfl rfl rfl
    · intro hb46
      have H := cnd_f H hb46
      refine s_exit ?_
      refine q_then_x ?_
      refine q_then_x ?_
      refine q_block_x ?_
      exact k_wk (J12 s45 (y45.1, y45.2) H) [0, 2, 3] [0, 1, 2, 3, 4] 5 [0, 0, 0] 0 rfl rfl rfl

def sha_Sum (a0_b : List UInt8) : Option (Arr UInt8 32) :=
(sha_New ).bind fun r4 =>
(sha_Stream_Write (⟨r4.h, r4.count, r4.rest⟩ : StreamS) a0_b).bind fun r9 =>
(sha_Stream_Sum (⟨r9.h, r9.count, r9.rest⟩ : StreamS)).bind fun r13 =>
some r13

theorem c_sha_Sum (a0_b : List UInt8) (A1 : Option Addr) (c2 : Nat) (r : (Arr UInt8 32)) (H : sha_Sum a0_b = some r) : Fn Tryd.prog 48 [(.slice A1 a0_b.length c2)] [Sl E8 A1 c2 a0_b] [] (fun v D' G' => v = (.agg (r.l.flatMap E8).toArray) ∧ D' = [] ∧ G' = []) := by
  unfold sha_Sum at H
  refine fn_of Tryd.func48 rfl Tryd.ntmps48 rfl ?_
  intro w0 D0 G0
  dsimp only [List.cons_append, List.nil_append, initEnv, Nat.zero_add, Nat.reduceAdd]
  refine s_seq ?_
  refine s_reg [0] rfl ?_
  refine oc (k_alloc rfl rfl Tryd.zeroValue23 (cs := (Arr.zero 0 32 : Arr UInt8 32).l.flatMap E8) rfl (g0 rfl) rfl rfl ?_)
  intro b3
  refine o_nil ?_
  refine q_then ?_
  refine s_seq ?_
  refine s_reg [0, 1] rfl ?_
  obtain ⟨r4, Hc5, H⟩ := bind_some' H
  refine oc (k_call (c_sha_New  r4 Hc5) Tryd.call56 rfl rfl rfl [] [] rfl rfl (g0 rfl) rfl rfl ?_)
  rintro _ _ _ ⟨b6, A7, c8, rfl, rfl, rfl⟩
  dsimp only [List.cons_append, List.nil_append]
  refine o_pu rfl (ev_assign rfl rfl) (g0 rfl) rfl rfl ?_
  refine o_nil ?_
  refine q_then ?_
  refine s_seq ?_
  refine s_reg [0, 1, 2] rfl ?_
  refine o_pu rfl (ev_move rfl rfl) (g0 rfl) rfl rfl ?_
  refine o_pu rfl (ev_move rfl rfl) (g0 rfl) rfl rfl ?_
  obtain ⟨r9, Hc10, H⟩ := bind_some' H
  refine oc (k_call (c_sha_Stream_Write b6 (⟨r4.h, r4.count, r4.rest⟩ : StreamS) A7 c8 a0_b A1 c2 r9 Hc10) Tryd.call57 rfl rfl rfl [1, 0] [0] rfl rfl (g0 rfl) rfl rfl ?_)
  rintro _ _ _ ⟨A11, c12, rfl, rfl, rfl⟩
  dsimp only [List.cons_append, List.nil_append]
  refine o_nil ?_
  refine q_then ?_
  refine s_seq ?_
  refine s_reg [0, 1, 2] rfl ?_
  refine o_pu rfl (ev_move rfl rfl) (g0 rfl) rfl rfl ?_
  obtain ⟨r13, Hc14, H⟩ := bind_some' H
  refine oc (k_call (c_sha_Stream_Sum b6 (⟨r9.h, r9.count, r9.rest⟩ : StreamS) A11 c12 r13 Hc14) Tryd.call59 rfl rfl rfl [0] [0] rfl rfl (g0 rfl) rfl rfl ?_)
  rintro _ _ _ ⟨rfl, rfl, rfl⟩
  dsimp only [List.cons_append, List.nil_append]
  refine oc (k_st (j := 0) rfl rfl rfl rfl (vs := r13.l.flatMap E8) rfl (sz (arr_len E8_len _ rfl) Tryd.sizeOf23) (arr_sc E8_one _) 1 rfl (spl_all ((arr_len E8_len _ rfl).trans (arr_len E8_len _ rfl).symm)) rfl (g0 rfl) rfl ?_)
  refine o_nil ?_
  refine q_then ?_
  refine s_ret ?_
  cases H
  exact q_end (rs_1 Tryd.results48 (rv_cell (j := 0) rfl (hG 1 rfl) Tryd.isAgg23 (sz (arr_len E8_len _ rfl) Tryd.sizeOf23) (sub_all _) rfl)) ⟨rfl, rfl, rfl⟩ [] rfl 3 rfl [] rfl 2 rfl

def hmac_pad_l0 (a1_with : UInt8) (J10 : (List UInt8) → Option (List UInt8)) : Nat → (Int × List UInt8) → Option (List UInt8)
  | 0, _ => none
  | k14 + 1, s14 =>
    bif (decide (s14.1 < ((64 : Int).toNat : Int))) then (
    chk (0 ≤ s14.1 ∧ s14.1 < ((64 : Int).toNat : Int) ∧ s14.1 < (s14.2.length : Int)) <|
    chk (0 ≤ s14.1 ∧ s14.1 < ((64 : Int).toNat : Int) ∧ s14.1 < (s14.2.length : Int)) <|
    hmac_pad_l0 a1_with J10 k14 ((wrap64 (s14.1 + 1)), (s14.2.set s14.1.toNat ((at' 0 s14.2 s14.1) ^^^ a1_with)))) else (
    J10 s14.2)

def hmac_pad (a0_key : List UInt8) (a1_with : UInt8) : Option (List UInt8) :=
jn (fun (x5 : List UInt8) =>
chk (0 ≤ (64 : Int) ∧ (64 : Int) ≤ 68719476736) <|
chk ((List.replicate (64 : Int).toNat (0 : UInt8)).length = (64 : Int).toNat) <|
jn (fun (x11 : List UInt8) =>
chk (x11.length = (64 : Int).toNat) <|
some x11) fun J10 =>
hmac_pad_l0 a1_with J10 Fuel (0, (cpy (List.replicate (64 : Int).toNat (0 : UInt8)) x5))) fun J4 =>
bif (decide ((a0_key.length : Int) > 64)) then (
(sha_Sum a0_key).bind fun r19 =>
J4 r19.l) else (
J4 a0_key)

theorem c_hmac_pad (a0_key : List UInt8) (A1 : Option Addr) (c2 : Nat) (a1_with : UInt8) (r : (List UInt8)) (H : hmac_pad a0_key a1_with = some r) : Fn Tryd.prog 58 [(.slice A1 a0_key.length c2), (v8 a1_with)] [Sl E8 A1 c2 a0_key] [] (fun v D' G' => ∃ (A22 : Option Addr) (c23 : Nat), v = (.slice A22 r.length c23) ∧ D' = [Sl E8 A22 c23 r] ∧ G' = [Spare A22 r.length c23 1]) := by
  unfold hmac_pad at H
  refine fn_of Tryd.func58 rfl Tryd.ntmps58 rfl ?_
  intro w0 D0 G0
  dsimp only [List.cons_append, List.nil_append, initEnv, Nat.zero_add, Nat.reduceAdd]
  refine s_seq ?_
  refine s_reg [0] rfl ?_
  refine o_pu rfl (ev_assign rfl rfl) (g0 rfl) rfl rfl ?_
  refine o_nil ?_
  refine q_then ?_
  refine s_seq ?_
  refine s_seq ?_
  refine s_reg [0, 1, 2] rfl ?_
  refine o_pu rfl (ev_move rfl rfl) (g0 rfl) rfl rfl ?_
  refine o_pu rfl (ev_len_slice rfl rfl Tryd.runUnderlying22) (g0 rfl) rfl rfl ?_
  refine o_pu rfl (ev_bin rfl rfl rfl rfl (gtr_i _ 64)) (g0 rfl) rfl rfl ?_
  refine o_nil ?_
  refine q_then ?_
  refine q_join (fun (x5 : List UInt8) (y6 : Option Addr × Nat) => ⟨Sl E8 y6.1 y6.2 x5 :: Sl E8 A1 c2 a0_key :: D0, G0, [(0, (.slice y6.1 x5.length y6.2)), (1, (v8 a1_with))]⟩) H ?_ ?_
  · intro x5 y6 H
    dsimp only
    refine q_then ?_
    refine s_seq ?_
    refine s_reg [0, 1] rfl ?_
    obtain ⟨hk8, H⟩ := chk_some H
    refine oc (k_make (f := E8) (m := (64 : Int)) (0 : UInt8) rfl rfl rfl rfl Tryd.underlying22 info5 rfl rfl rfl rfl rfl hk8 (g0 rfl) rfl rfl ?_)
    intro b7
    refine o_pu rfl (ev_assign rfl rfl) (g0 rfl) rfl rfl ?_
    refine o_nil ?_
    refine q_then ?_
    refine s_seq ?_
    refine s_reg [0, 1, 2] rfl ?_
    refine o_pu rfl (ev_move rfl rfl) (g0 rfl) rfl rfl ?_
    refine o_pu rfl (ev_move rfl rfl) (g0 rfl) rfl rfl ?_
    obtain ⟨hk9, H⟩ := chk_some H
    refine oc (k_copy (xs := (List.replicate (64 : Int).toNat (0 : UInt8))) (j := 0) rfl rfl rfl rfl Tryd.underlying22 info5 rfl E8_len E8_one 0 rfl 0 rfl hk9 (sub_all _) (spl_all (by rw [flatMap_length E8_len, flatMap_length E8_len, cpy_len])) rfl (g0 rfl) rfl rfl ?_)
    refine o_nil ?_
    refine q_then ?_
    refine s_seq ?_
    refine s_seq ?_
    refine s_reg [0, 1, 2] rfl ?_
    refine o_pu rfl (ev_move rfl rfl) (g0 rfl) rfl rfl ?_
    refine o_pu rfl (ev_len_slice rfl rfl Tryd.runUnderlying22) (g0 rfl) rfl rfl ?_
    refine o_pu rfl (ev_move rfl rfl) (g0 rfl) rfl rfl ?_
    refine o_nil ?_
    refine q_then ?_
    refine q_join (fun (x11 : List UInt8) (y12 : Unit) => ⟨Sl E8 y6.1 y6.2 x5 :: Sl E8 A1 c2 a0_key :: D0, At b7 0 (x11.flatMap E8) :: G0, [(6, (.slice (some ⟨b7, 0, none⟩) ((64 : Int).toNat) ((64 : Int).toNat)))]⟩) H ?_ ?_
    · intro x11 y12 H
      dsimp only
      refine q_then ?_
      refine s_seq ?_
      refine s_reg [0, 1] rfl ?_
      refine o_pu rfl (ev_move rfl rfl) (g0 rfl) rfl rfl ?_
      refine o_pu rfl (ev_assign rfl rfl) (g0 rfl) rfl rfl ?_
      refine o_nil ?_
      refine q_then ?_
      refine s_ret ?_
      obtain ⟨hk13, H⟩ := chk_some H
      refine k_keep 0 rfl ?_
      refine k_ro_sl (f := E8) (cap := (64 : Int).toNat) x11 0 rfl (sub_all _) rfl (Nat.le_of_eq hk13) (by have := hk8; omega) ?_
      refine k_eq (v' := (.slice (some ⟨b7, 0, none⟩) x11.length ((64 : Int).toNat))) 4 rfl (congrArg (fun z => Value.slice (some ⟨b7, 0, none⟩) z ((64 : Int).toNat)) hk13.symm) ?_
      refine k_eq (v' := (.slice (some ⟨b7, 0, none⟩) x11.length ((64 : Int).toNat))) 6 rfl (congrArg (fun z => Value.slice (some ⟨b7, 0, none⟩) z ((64 : Int).toNat)) hk13.symm) ?_
      refine k_eq (v' := (.slice (some ⟨b7, 0, none⟩) x11.length ((64 : Int).toNat))) 31 rfl (congrArg (fun z => Value.slice (some ⟨b7, 0, none⟩) z ((64 : Int).toNat)) hk13.symm) ?_
      refine k_spare_full (some ⟨b7, 0, none⟩) x11.length ((64 : Int).toNat) 1 hk13 ?_
      cases H
      exact q_end (rs_1 Tryd.results58 (rv_tmp rfl)) ⟨(some ⟨b7, 0, none⟩), (64 : Int).toNat, rfl, rfl, rfl⟩ [0] rfl 4 rfl [0] rfl 0 rfl
    · intro J10 H
      refine s_block ?_
      refine s_loop (k_wk (loop_ind (fun (s14 : Int × List UInt8) (y14 : Unit) => ⟨Sl E8 y6.1 y6.2 x5 :: Sl E8 A1 c2 a0_key :: D0, At b7 0 (s14.2.flatMap E8) :: G0, [(1, (v8 a1_with)), (6, (.slice (some ⟨b7, 0, none⟩) ((64 : Int).toNat) ((64 : Int).toNat))), (19, (vi ((64 : Int).toNat : Int))), (20, (vi s14.1))]⟩) (hmac_pad_l0 a1_with _) _ (fun _ => rfl) ?_ Fuel (0, (cpy (List.replicate (64 : Int).toNat (0 : UInt8)) x5)) () H) [1, 6, 19, 20] [0, 1] 2 [0] 0 rfl rfl rfl)
      intro k14 s14 y14 ih H
      dsimp only
      rw [hmac_pad_l0] at H
      refine s_seq ?_
      refine s_reg [0] rfl ?_
      refine o_pu rfl (ev_bin rfl rfl rfl rfl (lss_i _ _)) (g0 rfl) rfl rfl ?_
      refine o_nil ?_
      refine q_then ?_
      refine s_seq ?_
      refine s_cond rfl ?_ ?_
      · intro hb15
        have H := cnd_t H hb15
        refine s_skip ?_
        refine q_then ?_
        refine s_seq ?_
        refine s_block ?_
        refine s_seq ?_
        refine s_reg [0, 1] rfl ?_
        refine o_pu rfl (ev_move rfl rfl) (g0 rfl) rfl rfl ?_
        refine o_pu rfl (ev_assign rfl rfl) (g0 rfl) rfl rfl ?_
        refine o_nil ?_
        refine q_then ?_
        refine s_reg [0, 1, 2, 3, 4, 5, 6, 7] rfl ?_
        refine o_pu rfl (ev_move rfl rfl) (g0 rfl) rfl rfl ?_
        refine o_pu rfl (ev_move rfl rfl) (g0 rfl) rfl rfl ?_
        obtain ⟨hk16, H⟩ := chk_some H
        refine o_pu rfl (ev_idx_slice rfl rfl rfl Tryd.runUnderlying22 Tryd.sizeOf5 ⟨hk16.1, hk16.2.1⟩ rfl) (g0 rfl) rfl rfl ?_
        refine o_ld (hG 0 rfl) rfl (ev_ld1 rfl rfl Tryd.isAgg5 (sub_map E8_len 0 (k := s14.1) ⟨hk16.1, hk16.2.2⟩ rfl) (by omega)) (g0 rfl) rfl rfl ?_
        refine o_pu rfl (ev_move rfl rfl) (g0 rfl) rfl rfl ?_
        refine o_pu rfl (ev_bin rfl rfl rfl rfl (xor_8 _ _)) (g0 rfl) rfl rfl ?_
        obtain ⟨hk17, H⟩ := chk_some H
        refine o_pu rfl (ev_idx_slice rfl rfl rfl Tryd.runUnderlying22 Tryd.sizeOf5 ⟨hk17.1, hk17.2.1⟩ rfl) (g0 rfl) rfl rfl ?_
        refine oc (k_st rfl rfl rfl rfl (vs := [v8 ((at' 0 s14.2 s14.1) ^^^ a1_with)]) rfl (sz rfl Tryd.sizeOf5) rfl 0 rfl (spl_map E8_len _ (k := s14.1) _ ⟨hk17.1, hk17.2.2⟩ rfl) (by omega) (g0 rfl) rfl ?_)
        refine o_nil ?_
        refine q_block ?_
        refine q_then ?_
        refine s_reg [0, 1] rfl ?_
        refine o_pu rfl (ev_bin rfl rfl rfl rfl (add_i _ 1)) (g0 rfl) rfl rfl ?_
        refine o_pu rfl (ev_move rfl rfl) (g0 rfl) rfl rfl ?_
        refine o_nil ?_
        refine q_loop ?_
        exact k_wk (ih ((wrap64 (s14.1 + 1)), (s14.2.set s14.1.toNat ((at' 0 s14.2 s14.1) ^^^ a1_with))) () H) [1, 6, 19, 20] [0, 1] 2 [0] 0 rfl rfl rfl
      · intro hb15
        have H := cnd_f H hb15
        refine s_exit ?_
        refine q_then_x ?_
        refine q_then_x ?_
        refine q_block_x ?_
        exact k_wk (J10 s14.2 () H) [6] [0, 1] 2 [0] 0 rfl rfl rfl
  · intro J4 H
    refine s_cond rfl ?_ ?_
    · intro hb18
      have H := cnd_t H hb18
      refine s_seq ?_
      refine s_reg [0, 1, 2, 3] rfl ?_
      refine o_pu rfl (ev_move rfl rfl) (g0 rfl) rfl rfl ?_
      obtain ⟨r19, Hc20, H⟩ := bind_some' H
      refine oc (k_call (c_sha_Sum a0_key A1 c2 r19 Hc20) Tryd.call48 rfl rfl rfl [0] [] rfl rfl (g0 rfl) rfl rfl ?_)
      rintro _ _ _ ⟨rfl, rfl, rfl⟩
      dsimp only [List.cons_append, List.nil_append]
      refine oc (k_alloc rfl rfl Tryd.zeroValue23 (cs := (Arr.zero 0 32 : Arr UInt8 32).l.flatMap E8) rfl (g0 rfl) rfl rfl ?_)
      intro b21
      refine oc (k_st (j := 0) rfl rfl rfl rfl (vs := r19.l.flatMap E8) rfl (sz (arr_len E8_len _ rfl) Tryd.sizeOf23) (arr_sc E8_one _) 0 rfl (spl_all ((arr_len E8_len _ rfl).trans (arr_len E8_len _ rfl).symm)) rfl (g0 rfl) rfl ?_)
      refine o_nil ?_
      refine q_then ?_
      refine s_reg [0, 1] rfl ?_
      refine o_pu rfl (ev_slice_arr rfl rfl Tryd.runUnderlying23 Tryd.sizeOf5) (g0 rfl) rfl rfl ?_
      refine k_keep 0 rfl ?_
      refine k_ro_sl (f := E8) (cap := 32) r19.l 0 rfl (sub_all _) rfl (Nat.le_of_eq (r19).len) (by decide) ?_
      refine k_eq (v' := (.slice (some ⟨b21, 0, none⟩) r19.l.length 32)) 13 rfl (congrArg (fun z => Value.slice (some ⟨b21, 0, none⟩) z 32) (r19).len.symm) ?_
      refine k_spare_full (some ⟨b21, 0, none⟩) r19.l.length 32 1 (r19).len ?_
      refine o_pu rfl (ev_assign rfl rfl) (g0 rfl) rfl rfl ?_
      refine o_nil ?_
      exact k_wk (J4 r19.l ((some ⟨b21, 0, none⟩), 32) H) [0, 1] [0, 2] 3 [] 1 rfl rfl rfl
    · intro hb18
      have H := cnd_f H hb18
      refine s_skip ?_
      exact k_wk (J4 a0_key (A1, c2) H) [0, 1] [0, 0] 1 [] 0 rfl rfl rfl

def hmac_Tag (a0_key : List UInt8) (a1_b : List UInt8) : Option (Arr UInt8 32) :=
(sha_New ).bind fun r6 =>
(sha_New ).bind fun r11 =>
(hmac_pad a0_key (54 : UInt8)).bind fun r16 =>
(sha_Stream_Write (⟨r6.h, r6.count, r6.rest⟩ : StreamS) r16).bind fun r20 =>
(sha_Stream_Write (⟨r20.h, r20.count, r20.rest⟩ : StreamS) a1_b).bind fun r24 =>
(sha_Stream_Sum (⟨r24.h, r24.count, r24.rest⟩ : StreamS)).bind fun r28 =>
(hmac_pad a0_key (92 : UInt8)).bind fun r31 =>
(sha_Stream_Write (⟨r11.h, r11.count, r11.rest⟩ : StreamS) r31).bind fun r35 =>
(sha_Stream_Write (⟨r35.h, r35.count, r35.rest⟩ : StreamS) r28.l).bind fun r39 =>
(sha_Stream_Sum (⟨r39.h, r39.count, r39.rest⟩ : StreamS)).bind fun r43 =>
some r43

theorem c_hmac_Tag (a0_key : List UInt8) (A1 : Option Addr) (c2 : Nat) (a1_b : List UInt8) (A3 : Option Addr) (c4 : Nat) (r : (Arr UInt8 32)) (H : hmac_Tag a0_key a1_b = some r) : Fn Tryd.prog 26 [(.slice A1 a0_key.length c2), (.slice A3 a1_b.length c4)] [Sl E8 A3 c4 a1_b, Sl E8 A1 c2 a0_key] [] (fun v D' G' => v = (.agg (r.l.flatMap E8).toArray) ∧ D' = [] ∧ G' = []) := by
  unfold hmac_Tag at H
  refine fn_of Tryd.func26 rfl Tryd.ntmps26 rfl ?_
  intro w0 D0 G0
  dsimp only [List.cons_append, List.nil_append, initEnv, Nat.zero_add, Nat.reduceAdd]
  refine s_seq ?_
  refine s_reg [0] rfl ?_
  refine oc (k_alloc rfl rfl Tryd.zeroValue23 (cs := (Arr.zero 0 32 : Arr UInt8 32).l.flatMap E8) rfl (g0 rfl) rfl rfl ?_)
  intro b5
  refine o_nil ?_
  refine q_then ?_
  refine s_seq ?_
  refine s_reg [0, 1, 2, 3] rfl ?_
  obtain ⟨r6, Hc7, H⟩ := bind_some' H
  refine oc (k_call (c_sha_New  r6 Hc7) Tryd.call56 rfl rfl rfl [] [] rfl rfl (g0 rfl) rfl rfl ?_)
  rintro _ _ _ ⟨b8, A9, c10, rfl, rfl, rfl⟩
  dsimp only [List.cons_append, List.nil_append]
  obtain ⟨r11, Hc12, H⟩ := bind_some' H
  refine oc (k_call (c_sha_New  r11 Hc12) Tryd.call56 rfl rfl rfl [] [] rfl rfl (g0 rfl) rfl rfl ?_)
  rintro _ _ _ ⟨b13, A14, c15, rfl, rfl, rfl⟩
  dsimp only [List.cons_append, List.nil_append]
  refine o_pu rfl (ev_assign rfl rfl) (g0 rfl) rfl rfl ?_
  refine o_pu rfl (ev_assign rfl rfl) (g0 rfl) rfl rfl ?_
  refine o_nil ?_
  refine q_then ?_
  refine s_seq ?_
  refine s_reg [0, 1, 2, 3] rfl ?_
  refine o_pu rfl (ev_move rfl rfl) (g0 rfl) rfl rfl ?_
  refine o_pu rfl (ev_move rfl rfl) (g0 rfl) rfl rfl ?_
  obtain ⟨r16, Hc17, H⟩ := bind_some' H
  refine oc (k_call (c_hmac_pad a0_key A1 c2 54 r16 Hc17) Tryd.call58 rfl rfl rfl [3] [] rfl rfl (g0 rfl) rfl rfl ?_)
  rintro _ _ _ ⟨A18, c19, rfl, rfl, rfl⟩
  dsimp only [List.cons_append, List.nil_append]
  obtain ⟨r20, Hc21, H⟩ := bind_some' H
  refine oc (k_call (c_sha_Stream_Write b8 (⟨r6.h, r6.count, r6.rest⟩ : StreamS) A9 c10 r16 A18 c19 r20 Hc21) Tryd.call57 rfl rfl rfl [0, 2] [2] rfl rfl (g0 rfl) rfl rfl ?_)
  rintro _ _ _ ⟨A22, c23, rfl, rfl, rfl⟩
  dsimp only [List.cons_append, List.nil_append]
  refine o_nil ?_
  refine q_then ?_
  refine s_seq ?_
  refine s_reg [0, 1, 2] rfl ?_
  refine o_pu rfl (ev_move rfl rfl) (g0 rfl) rfl rfl ?_
  refine o_pu rfl (ev_move rfl rfl) (g0 rfl) rfl rfl ?_
  obtain ⟨r24, Hc25, H⟩ := bind_some' H
  refine oc (k_call (c_sha_Stream_Write b8 (⟨r20.h, r20.count, r20.rest⟩ : StreamS) A22 c23 a1_b A3 c4 r24 Hc25) Tryd.call57 rfl rfl rfl [4, 0] [0] rfl rfl (g0 rfl) rfl rfl ?_)
  rintro _ _ _ ⟨A26, c27, rfl, rfl, rfl⟩
  dsimp only [List.cons_append, List.nil_append]
  refine o_nil ?_
  refine q_then ?_
  refine s_seq ?_
  refine s_reg [0, 1, 2, 3] rfl ?_
  refine o_pu rfl (ev_move rfl rfl) (g0 rfl) rfl rfl ?_
  obtain ⟨r28, Hc29, H⟩ := bind_some' H
  refine oc (k_call (c_sha_Stream_Sum b8 (⟨r24.h, r24.count, r24.rest⟩ : StreamS) A26 c27 r28 Hc29) Tryd.call59 rfl rfl rfl [0] [0] rfl rfl (g0 rfl) rfl rfl ?_)
  rintro _ _ _ ⟨rfl, rfl, rfl⟩
  dsimp only [List.cons_append, List.nil_append]
  refine oc (k_alloc rfl rfl Tryd.zeroValue23 (cs := (Arr.zero 0 32 : Arr UInt8 32).l.flatMap E8) rfl (g0 rfl) rfl rfl ?_)
  intro b30
  refine oc (k_st (j := 0) rfl rfl rfl rfl (vs := r28.l.flatMap E8) rfl (sz (arr_len E8_len _ rfl) Tryd.sizeOf23) (arr_sc E8_one _) 0 rfl (spl_all ((arr_len E8_len _ rfl).trans (arr_len E8_len _ rfl).symm)) rfl (g0 rfl) rfl ?_)
  refine o_nil ?_
  refine q_then ?_
  refine s_seq ?_
  refine s_reg [0, 1, 2, 3] rfl ?_
  refine o_pu rfl (ev_move rfl rfl) (g0 rfl) rfl rfl ?_
  refine o_pu rfl (ev_move rfl rfl) (g0 rfl) rfl rfl ?_
  obtain ⟨r31, Hc32, H⟩ := bind_some' H
  refine oc (k_call (c_hmac_pad a0_key A1 c2 92 r31 Hc32) Tryd.call58 rfl rfl rfl [6] [] rfl rfl (g0 rfl) rfl rfl ?_)
  rintro _ _ _ ⟨A33, c34, rfl, rfl, rfl⟩
  dsimp only [List.cons_append, List.nil_append]
  obtain ⟨r35, Hc36, H⟩ := bind_some' H
  refine oc (k_call (c_sha_Stream_Write b13 (⟨r11.h, r11.count, r11.rest⟩ : StreamS) A14 c15 r31 A33 c34 r35 Hc36) Tryd.call57 rfl rfl rfl [0, 4] [4] rfl rfl (g0 rfl) rfl rfl ?_)
  rintro _ _ _ ⟨A37, c38, rfl, rfl, rfl⟩
  dsimp only [List.cons_append, List.nil_append]
  refine o_nil ?_
  refine q_then ?_
  refine s_seq ?_
  refine s_reg [0, 1, 2] rfl ?_
  refine o_pu rfl (ev_move rfl rfl) (g0 rfl) rfl rfl ?_
  refine o_pu rfl (ev_slice_arr rfl rfl Tryd.runUnderlying23 Tryd.sizeOf5) (g0 rfl) rfl rfl ?_
  refine k_keep 2 rfl ?_
  refine k_ro_sl (f := E8) (cap := 32) r28.l 0 rfl (sub_all _) rfl (Nat.le_of_eq (r28).len) (by decide) ?_
  refine k_eq (v' := (.slice (some ⟨b30, 0, none⟩) r28.l.length 32)) 24 rfl (congrArg (fun z => Value.slice (some ⟨b30, 0, none⟩) z 32) (r28).len.symm) ?_
  refine k_spare_full (some ⟨b30, 0, none⟩) r28.l.length 32 1 (r28).len ?_
  obtain ⟨r39, Hc40, H⟩ := bind_some' H
  refine oc (k_call (c_sha_Stream_Write b13 (⟨r35.h, r35.count, r35.rest⟩ : StreamS) A37 c38 r28.l (some ⟨b30, 0, none⟩) 32 r39 Hc40) Tryd.call57 rfl rfl rfl [0, 2] [1] rfl rfl (g0 rfl) rfl rfl ?_)
  rintro _ _ _ ⟨A41, c42, rfl, rfl, rfl⟩
  dsimp only [List.cons_append, List.nil_append]
  refine o_nil ?_
  refine q_then ?_
  refine s_seq ?_
  refine s_reg [0, 1, 2] rfl ?_
  refine o_pu rfl (ev_move rfl rfl) (g0 rfl) rfl rfl ?_
  obtain ⟨r43, Hc44, H⟩ := bind_some' H
  refine oc (k_call (c_sha_Stream_Sum b13 (⟨r39.h, r39.count, r39.rest⟩ : StreamS) A41 c42 r43 Hc44) Tryd.call59 rfl rfl rfl [0] [0] rfl rfl (g0 rfl) rfl rfl ?_)
  rintro _ _ _ ⟨rfl, rfl, rfl⟩
  dsimp only [List.cons_append, List.nil_append]
  refine oc (k_st (j := 0) rfl rfl rfl rfl (vs := r43.l.flatMap E8) rfl (sz (arr_len E8_len _ rfl) Tryd.sizeOf23) (arr_sc E8_one _) 5 rfl (spl_all ((arr_len E8_len _ rfl).trans (arr_len E8_len _ rfl).symm)) rfl (g0 rfl) rfl ?_)
  refine o_nil ?_
  refine q_then ?_
  refine s_ret ?_
  cases H
  exact q_end (rs_1 Tryd.results26 (rv_cell (j := 0) rfl (hG 5 rfl) Tryd.isAgg23 (sz (arr_len E8_len _ rfl) Tryd.sizeOf23) (sub_all _) rfl)) ⟨rfl, rfl, rfl⟩ [] rfl 12 rfl [] rfl 6 rfl

def manifest_Bytes (a0_key : List UInt8) (a1_m : Mani) : Option (List UInt8) :=
(manifest_Body a1_m).bind fun r4 =>
(hmac_Tag a0_key r4).bind fun r8 =>
chk (r4.length + r8.l.length ≤ 68719476736) <|
some (r4 ++ r8.l)

theorem c_manifest_Bytes (a0_key : List UInt8) (A1 : Option Addr) (c2 : Nat) (a1_m : Mani) (r : (List UInt8)) (H : manifest_Bytes a0_key a1_m = some r) : Fn Tryd.prog 10 [(.slice A1 a0_key.length c2), (.agg (Mani.cells a1_m).toArray)] [Sl E8 A1 c2 a0_key] [] (fun v D' G' => ∃ (A14 : Option Addr) (c15 : Nat), v = (.slice A14 r.length c15) ∧ D' = [Sl E8 A14 c15 r] ∧ G' = [Spare A14 r.length c15 1]) := by
  unfold manifest_Bytes at H
  refine fn_of Tryd.func10 rfl Tryd.ntmps10 rfl ?_
  intro w0 D0 G0
  dsimp only [List.cons_append, List.nil_append, initEnv, Nat.zero_add, Nat.reduceAdd]
  refine s_seq ?_
  refine s_reg [0, 1] rfl ?_
  refine oc (k_box rfl rfl rfl (cs := Mani.cells a1_m) rfl (g0 rfl) rfl rfl ?_)
  intro b3
  refine o_pu rfl (ev_assign rfl rfl) (g0 rfl) rfl rfl ?_
  refine o_nil ?_
  refine q_then ?_
  refine s_seq ?_
  refine s_reg [0, 1, 2] rfl ?_
  refine o_ld (hG 0 rfl) rfl (ev_ldN (j := 0) rfl rfl Tryd.isAgg27 (sz (Mani.len _) Tryd.sizeOf27) (sub_all _) rfl) (g0 rfl) rfl rfl ?_
  obtain ⟨r4, Hc5, H⟩ := bind_some' H
  refine oc (k_call (c_manifest_Body a1_m r4 Hc5) Tryd.call25 rfl rfl rfl [] [] rfl rfl (g0 rfl) rfl rfl ?_)
  rintro _ _ _ ⟨A6, c7, rfl, rfl, rfl⟩
  dsimp only [List.cons_append, List.nil_append]
  refine o_pu rfl (ev_assign rfl rfl) (g0 rfl) rfl rfl ?_
  refine o_nil ?_
  refine q_then ?_
  refine s_seq ?_
  refine s_reg [0, 1, 2, 3, 4] rfl ?_
  refine o_pu rfl (ev_move rfl rfl) (g0 rfl) rfl rfl ?_
  refine o_pu rfl (ev_move rfl rfl) (g0 rfl) rfl rfl ?_
  obtain ⟨r8, Hc9, H⟩ := bind_some' H
  refine oc (k_call (c_hmac_Tag a0_key A1 c2 r4 A6 c7 r8 Hc9) Tryd.call26 rfl rfl rfl [0, 1] [] rfl rfl (g0 rfl) rfl rfl ?_)
  rintro _ _ _ ⟨rfl, rfl, rfl⟩
  dsimp only [List.cons_append, List.nil_append]
  refine oc (k_alloc rfl rfl Tryd.zeroValue23 (cs := (Arr.zero 0 32 : Arr UInt8 32).l.flatMap E8) rfl (g0 rfl) rfl rfl ?_)
  intro b10
  refine oc (k_st (j := 0) rfl rfl rfl rfl (vs := r8.l.flatMap E8) rfl (sz (arr_len E8_len _ rfl) Tryd.sizeOf23) (arr_sc E8_one _) 0 rfl (spl_all ((arr_len E8_len _ rfl).trans (arr_len E8_len _ rfl).symm)) rfl (g0 rfl) rfl ?_)
  refine o_nil ?_
  refine q_then ?_
  refine s_seq ?_
  refine s_reg [0, 1, 2, 3] rfl ?_
  refine o_pu rfl (ev_move rfl rfl) (g0 rfl) rfl rfl ?_
  refine o_pu rfl (ev_slice_arr rfl rfl Tryd.runUnderlying23 Tryd.sizeOf5) (g0 rfl) rfl rfl ?_
  refine k_keep 0 rfl ?_
  refine k_ro_sl (f := E8) (cap := 32) r8.l 0 rfl (sub_all _) rfl (Nat.le_of_eq (r8).len) (by decide) ?_
  refine k_eq (v' := (.slice (some ⟨b10, 0, none⟩) r8.l.length 32)) 13 rfl (congrArg (fun z => Value.slice (some ⟨b10, 0, none⟩) z 32) (r8).len.symm) ?_
  refine k_spare_full (some ⟨b10, 0, none⟩) r8.l.length 32 1 (r8).len ?_
  obtain ⟨hk13, H⟩ := chk_some H
  refine oc (k_append 2 0 1 rfl rfl rfl rfl rfl rfl rfl E8_len E8_one Tryd.underlying22 Tryd.underlying22 info5 rfl rfl rfl rfl hk13 (g0 rfl) rfl rfl ?_)
  intro A11 c12
  refine o_pu rfl (ev_assign rfl rfl) (g0 rfl) rfl rfl ?_
  refine o_nil ?_
  refine q_then ?_
  refine s_ret ?_
  cases H
  exact q_end (rs_1 Tryd.results10 (rv_tmp rfl)) ⟨A11, c12, rfl, rfl, rfl⟩ [0] rfl 5 rfl [1] rfl 2 rfl

def manifest_Signed (a0_key : List UInt8) (a1_b : List UInt8) : Option Bool :=
(manifest_Read a1_b).bind fun r5 =>
bif (r5.2.2 != 0) then (
some false) else (
chk (0 ≤ (0 : Int) ∧ (0 : Int) ≤ (60 : Int) ∧ (60 : Int) ≤ (a1_b.length : Int)) <|
(hmac_Tag a0_key (slc a1_b (0 : Int) (60 : Int))).bind fun r14 =>
(hmac_Same r5.2.1 r14.l).bind fun r17 =>
some r17)

theorem c_manifest_Signed (a0_key : List UInt8) (A1 : Option Addr) (c2 : Nat) (a1_b : List UInt8) (A3 : Option Addr) (c4 : Nat) (r : Bool) (H : manifest_Signed a0_key a1_b = some r) : Fn Tryd.prog 13 [(.slice A1 a0_key.length c2), (.slice A3 a1_b.length c4)] [Sl E8 A3 c4 a1_b, Sl E8 A1 c2 a0_key] [] (fun v D' G' => v = (vb r) ∧ D' = [] ∧ G' = []) := by
  unfold manifest_Signed at H
  refine fn_of Tryd.func13 rfl Tryd.ntmps13 rfl ?_
  intro w0 D0 G0
  dsimp only [List.cons_append, List.nil_append, initEnv, Nat.zero_add, Nat.reduceAdd]
  refine s_seq ?_
  refine s_reg [0] rfl ?_
  refine o_pu rfl (ev_assign rfl rfl) (g0 rfl) rfl rfl ?_
  refine o_nil ?_
  refine q_then ?_
  refine s_seq ?_
  refine s_reg [0, 1, 2, 3, 4, 5, 6, 7, 8, 9] rfl ?_
  refine o_pu rfl (ev_move rfl rfl) (g0 rfl) rfl rfl ?_
  obtain ⟨r5, Hc6, H⟩ := bind_some' H
  refine oc (k_call (c_manifest_Read a1_b A3 c4 r5 Hc6) Tryd.call11 rfl rfl rfl [0] [] rfl rfl (g0 rfl) rfl rfl ?_)
  rintro _ _ _ ⟨A7, c8, rfl, rfl, rfl⟩
  dsimp only [List.cons_append, List.nil_append]
  refine o_pu rfl (ev_move rfl rfl) (g0 rfl) rfl rfl ?_
  refine o_pu rfl (ev_extract rfl rfl rfl) (g0 rfl) rfl rfl ?_
  refine o_pu rfl (ev_extract rfl rfl rfl) (g0 rfl) rfl rfl ?_
  refine o_pu rfl (ev_extract rfl rfl rfl) (g0 rfl) rfl rfl ?_
  refine oc (k_alloc rfl rfl Tryd.zeroValue27 (cs := Mani.cells Mani.zero) rfl (g0 rfl) rfl rfl ?_)
  intro b9
  refine oc (k_st (j := 0) rfl rfl rfl rfl (vs := Mani.cells r5.1) rfl (sz (Mani.len _) Tryd.sizeOf27) (Mani.sc _) 0 rfl (spl_all ((Mani.len _).trans (Mani.len _).symm)) rfl (g0 rfl) rfl ?_)
  refine o_pu rfl (ev_assign rfl rfl) (g0 rfl) rfl rfl ?_
  refine o_pu rfl (ev_assign rfl rfl) (g0 rfl) rfl rfl ?_
  refine o_nil ?_
  refine q_then ?_
  refine s_seq ?_
  refine s_seq ?_
  refine s_reg [0, 1] rfl ?_
  refine o_pu rfl (ev_move rfl rfl) (g0 rfl) rfl rfl ?_
  refine o_pu rfl (ev_bin rfl rfl rfl rfl (neq_i _ 0)) (g0 rfl) rfl rfl ?_
  refine o_nil ?_
  refine q_then ?_
  refine s_cond rfl ?_ ?_
  · intro hb10
    have H := cnd_t H hb10
    refine s_seq ?_
    refine s_reg [0] rfl ?_
    refine o_pu rfl (ev_assign rfl rfl) (g0 rfl) rfl rfl ?_
    refine o_nil ?_
    refine q_then ?_
    refine s_ret ?_
    refine q_then_r ?_
    cases H
    exact q_end (rs_1 Tryd.results13 (rv_tmp rfl)) ⟨rfl, rfl, rfl⟩ [] rfl 3 rfl [] rfl 2 rfl
  · intro hb10
    have H := cnd_f H hb10
    refine s_skip ?_
    refine q_then ?_
    refine s_seq ?_
    refine s_reg [0, 1, 2, 3, 4, 5] rfl ?_
    refine o_pu rfl (ev_move rfl rfl) (g0 rfl) rfl rfl ?_
    refine o_pu rfl (ev_move rfl rfl) (g0 rfl) rfl rfl ?_
    obtain ⟨hk13, H⟩ := chk_some H
    refine oc (k_slice (ka := .i64) (a := (0 : Int)) (b := (60 : Int)) 1 rfl rfl rfl rfl E8_len Tryd.runUnderlying22 Tryd.sizeOf5 (.inl ⟨rfl, rfl⟩) (.inr rfl) hk13 (g0 rfl) rfl rfl ?_)
    intro A11 c12
    obtain ⟨r14, Hc15, H⟩ := bind_some' H
    refine oc (k_call (c_hmac_Tag a0_key A1 c2 (slc a1_b (0 : Int) (60 : Int)) A11 c12 r14 Hc15) Tryd.call26 rfl rfl rfl [0, 3] [] rfl rfl (g0 rfl) rfl rfl ?_)
    rintro _ _ _ ⟨rfl, rfl, rfl⟩
    dsimp only [List.cons_append, List.nil_append]
    refine oc (k_alloc rfl rfl Tryd.zeroValue23 (cs := (Arr.zero 0 32 : Arr UInt8 32).l.flatMap E8) rfl (g0 rfl) rfl rfl ?_)
    intro b16
    refine oc (k_st (j := 0) rfl rfl rfl rfl (vs := r14.l.flatMap E8) rfl (sz (arr_len E8_len _ rfl) Tryd.sizeOf23) (arr_sc E8_one _) 0 rfl (spl_all ((arr_len E8_len _ rfl).trans (arr_len E8_len _ rfl).symm)) rfl (g0 rfl) rfl ?_)
    refine o_nil ?_
    refine q_then ?_
    refine s_seq ?_
    refine s_reg [0, 1, 2, 3] rfl ?_
    refine o_pu rfl (ev_move rfl rfl) (g0 rfl) rfl rfl ?_
    refine o_pu rfl (ev_slice_arr rfl rfl Tryd.runUnderlying23 Tryd.sizeOf5) (g0 rfl) rfl rfl ?_
    refine k_keep 0 rfl ?_
    refine k_ro_sl (f := E8) (cap := 32) r14.l 0 rfl (sub_all _) rfl (Nat.le_of_eq (r14).len) (by decide) ?_
    refine k_eq (v' := (.slice (some ⟨b16, 0, none⟩) r14.l.length 32)) 22 rfl (congrArg (fun z => Value.slice (some ⟨b16, 0, none⟩) z 32) (r14).len.symm) ?_
    refine k_spare_full (some ⟨b16, 0, none⟩) r14.l.length 32 1 (r14).len ?_
    obtain ⟨r17, Hc18, H⟩ := bind_some' H
    refine oc (k_call (c_hmac_Same r5.2.1 A7 c8 r14.l (some ⟨b16, 0, none⟩) 32 r17 Hc18) Tryd.call33 rfl rfl rfl [0, 3] [] rfl rfl (g0 rfl) rfl rfl ?_)
    rintro _ _ _ ⟨rfl, rfl, rfl⟩
    dsimp only [List.cons_append, List.nil_append]
    refine o_pu rfl (ev_assign rfl rfl) (g0 rfl) rfl rfl ?_
    refine o_nil ?_
    refine q_then ?_
    refine s_ret ?_
    cases H
    exact q_end (rs_1 Tryd.results13 (rv_tmp rfl)) ⟨rfl, rfl, rfl⟩ [] rfl 6 rfl [] rfl 3 rfl

def law12_alive : Option Bool :=
(manifest_Read []).bind fun r1 =>
(manifest_Bytes ([107] : List UInt8) (⟨([97] : List UInt8), (⟨1, 1, (Arr.zero 0 32)⟩ : Img)⟩ : Mani)).bind fun r7 =>
(law12_num r1.2.2).bind fun r11 =>
bnd (r11 == 6) fun b13 =>
jn (fun x16 =>
bnd x16 fun b17 =>
jn (fun x20 =>
bnd x20 fun b21 =>
jn (fun x24 =>
some x24) fun J23 =>
bif b21 then (
(manifest_Signed ([108] : List UInt8) r7).bind fun r26 =>
J23 (!r26)) else
J23 false) fun J19 =>
bif b17 then (
(manifest_Signed ([107] : List UInt8) r7).bind fun r29 =>
J19 r29) else
J19 false) fun J15 =>
bif b13 then (
J15 ((r7.length : Int) == 92)) else
J15 false

theorem c_law12_alive (r : Bool) (H : law12_alive  = some r) : Fn Tryd.prog 9 [] [] [] (fun v D' G' => v = (vb r) ∧ D' = [] ∧ G' = []) := by
  unfold law12_alive at H
  refine fn_of Tryd.func9 rfl Tryd.ntmps9 rfl ?_
  intro w0 D0 G0
  dsimp only [List.cons_append, List.nil_append, initEnv, Nat.zero_add, Nat.reduceAdd]
  refine s_seq ?_
  refine s_reg [0] rfl ?_
  refine o_pu rfl (ev_assign rfl rfl) (g0 rfl) rfl rfl ?_
  refine o_nil ?_
  refine q_then ?_
  refine s_seq ?_
  refine s_reg [0, 1, 2, 3, 4, 5, 6, 7, 8] rfl ?_
  refine k_nil_sl E8 ?_
  obtain ⟨r1, Hc2, H⟩ := bind_some' H
  refine oc (k_call (c_manifest_Read [] none 0 r1 Hc2) Tryd.call11 rfl rfl rfl [0] [] rfl rfl (g0 rfl) rfl rfl ?_)
  rintro _ _ _ ⟨A3, c4, rfl, rfl, rfl⟩
  dsimp only [List.cons_append, List.nil_append]
  refine o_pu rfl (ev_move rfl rfl) (g0 rfl) rfl rfl ?_
  refine o_pu rfl (ev_extract rfl rfl rfl) (g0 rfl) rfl rfl ?_
  refine o_pu rfl (ev_extract rfl rfl rfl) (g0 rfl) rfl rfl ?_
  refine o_pu rfl (ev_extract rfl rfl rfl) (g0 rfl) rfl rfl ?_
  refine oc (k_alloc rfl rfl Tryd.zeroValue27 (cs := Mani.cells Mani.zero) rfl (g0 rfl) rfl rfl ?_)
  intro b5
  refine oc (k_st (j := 0) rfl rfl rfl rfl (vs := Mani.cells r1.1) rfl (sz (Mani.len _) Tryd.sizeOf27) (Mani.sc _) 0 rfl (spl_all ((Mani.len _).trans (Mani.len _).symm)) rfl (g0 rfl) rfl ?_)
  refine o_pu rfl (ev_assign rfl rfl) (g0 rfl) rfl rfl ?_
  refine o_pu rfl (ev_assign rfl rfl) (g0 rfl) rfl rfl ?_
  refine o_nil ?_
  refine q_then ?_
  refine s_seq ?_
  refine s_reg [0, 1, 2, 3, 4, 5] rfl ?_
  refine o_lit ([107] : List UInt8) rfl rfl rfl rfl Tryd.underlying22 Tryd.underlying5 Tryd.sizeOf5 Tryd.zeroValue5 rfl rfl (fill_all rfl rfl (by simp) rfl rfl) (g0 rfl) rfl rfl rfl rfl (fun _ => (g0 rfl)) rfl rfl ?_
  intro b6
  refine o_pu rfl (ev_build (cs := Img.cells (⟨1, 1, (Arr.zero 0 32)⟩ : Img)) rfl rfl Tryd.zeroValue25 Tryd.runUnderlying25 pl25 (show Instr.fill _ (Img.cells Img.zero).toArray _ = some _ from (fill_cons rfl (s := [vi 1]) rfl rfl (Img.set_Version _ 1) (fill_cons rfl (s := [vi 1]) rfl rfl (Img.set_Size _ 1) fill_nil)))) (g0 rfl) rfl rfl ?_
  refine o_pu rfl (ev_build (cs := Mani.cells (⟨([97] : List UInt8), (⟨1, 1, (Arr.zero 0 32)⟩ : Img)⟩ : Mani)) rfl rfl Tryd.zeroValue27 Tryd.runUnderlying27 pl27 (show Instr.fill _ (Mani.cells Mani.zero).toArray _ = some _ from (fill_cons rfl (s := [vs ([97] : List UInt8)]) rfl rfl (Mani.set_Name _ ([97] : List UInt8)) (fill_cons rfl (s := Img.cells (⟨1, 1, (Arr.zero 0 32)⟩ : Img)) rfl (Img.len _) (Mani.set_Image _ (⟨1, 1, (Arr.zero 0 32)⟩ : Img)) fill_nil)))) (g0 rfl) rfl rfl ?_
  obtain ⟨r7, Hc8, H⟩ := bind_some' H
  refine oc (k_call (c_manifest_Bytes ([107] : List UInt8) (some ⟨b6, 0, none⟩) 1 (⟨([97] : List UInt8), (⟨1, 1, (Arr.zero 0 32)⟩ : Img)⟩ : Mani) r7 Hc8) Tryd.call10 rfl rfl rfl [0] [] rfl rfl (g0 rfl) rfl rfl ?_)
  rintro _ _ _ ⟨A9, c10, rfl, rfl, rfl⟩
  dsimp only [List.cons_append, List.nil_append]
  refine o_pu rfl (ev_assign rfl rfl) (g0 rfl) rfl rfl ?_
  refine o_nil ?_
  refine q_then ?_
  refine s_seq ?_
  refine s_reg [0, 1, 2, 3, 4, 5, 6, 7, 8, 9, 10, 11, 12, 13, 14, 15, 16, 17, 18, 19, 20, 21] rfl ?_
  refine o_pu rfl (ev_move rfl rfl) (g0 rfl) rfl rfl ?_
  obtain ⟨r11, Hc12, H⟩ := bind_some' H
  refine oc (k_call (c_law12_num r1.2.2 r11 Hc12) Tryd.call12 rfl rfl rfl [] [] rfl rfl (g0 rfl) rfl rfl ?_)
  rintro _ _ _ ⟨rfl, rfl, rfl⟩
  dsimp only [List.cons_append, List.nil_append]
  refine o_pu rfl (ev_bin rfl rfl rfl rfl (eql_i _ 6)) (g0 rfl) rfl rfl ?_
  refine o_pu rfl (ev_move rfl rfl) (g0 rfl) rfl rfl ?_
  refine k_name 18 rfl ?_
  intro b13 hb14
  have H := bnd_eq H hb14
  refine o_jb 22 [8, 9, 10, 11, 12, 13, 14, 15, 16, 17, 18, 19, 20, 21] [0, 1, 2, 3, 4, 5, 6, 7, 8, 9, 10, 11, 12, 13, 14, 15, 16, 17, 18] H rfl ?_ ?_
  · intro x16 H
    refine o_pu rfl (ev_move rfl rfl) (g0 rfl) rfl rfl ?_
    refine k_name 23 rfl ?_
    intro b17 hb18
    have H := bnd_eq H hb18
    refine o_jb 28 [14, 15, 16, 17, 18, 19, 20, 21] [0, 1, 2, 3, 4, 5, 6, 7, 8, 9, 10, 11, 12, 13, 14, 15, 16, 17, 18, 22, 23] H rfl ?_ ?_
    · intro x20 H
      refine o_pu rfl (ev_move rfl rfl) (g0 rfl) rfl rfl ?_
      refine k_name 29 rfl ?_
      intro b21 hb22
      have H := bnd_eq H hb22
      refine o_jb 35 [21] [0, 1, 2, 3, 4, 5, 6, 7, 8, 9, 10, 11, 12, 13, 14, 15, 16, 17, 18, 22, 23, 28, 29] H rfl ?_ ?_
      · intro x24 H
        refine o_pu rfl (ev_assign rfl rfl) (g0 rfl) rfl rfl ?_
        refine o_nil ?_
        refine q_then ?_
        refine s_ret ?_
        cases H
        exact q_end (rs_1 Tryd.results9 (rv_tmp rfl)) ⟨rfl, rfl, rfl⟩ [] rfl 4 rfl [] rfl 3 rfl
      · intro J23 H
        cases b21 with
        | true =>
          rw [cond_true] at H
          refine o_lit ([108] : List UInt8) rfl rfl rfl rfl Tryd.underlying22 Tryd.underlying5 Tryd.sizeOf5 Tryd.zeroValue5 rfl rfl (fill_all rfl rfl (by simp) rfl rfl) (g1 rfl rfl rfl rfl) rfl rfl rfl rfl (fun _ => (g1 rfl rfl rfl rfl)) rfl rfl ?_
          intro b25
          refine o_pu rfl (ev_move rfl rfl) (g1 rfl rfl rfl rfl) rfl rfl ?_
          obtain ⟨r26, Hc27, H⟩ := bind_some' H
          refine oc (k_call (c_manifest_Signed ([108] : List UInt8) (some ⟨b25, 0, none⟩) 1 r7 A9 c10 r26 Hc27) Tryd.call13 rfl rfl rfl [1, 0] [] rfl rfl (g1 rfl rfl rfl rfl) rfl rfl ?_)
          rintro _ _ _ ⟨rfl, rfl, rfl⟩
          dsimp only [List.cons_append, List.nil_append]
          refine o_pu rfl (ev_not rfl rfl) (g1 rfl rfl rfl rfl) rfl rfl ?_
          refine o_pu rfl (ev_pick_t rfl rfl rfl) (g0 rfl) rfl rfl ?_
          exact k_wk (J23 (!r26) H) [35, 0, 1, 2, 3, 4, 5, 6, 7, 8, 9, 10, 11, 12, 13, 14, 15, 16, 17, 18, 22, 23, 28, 29] [1, 2, 3, 4] 5 [0, 0, 0] 0 rfl rfl rfl
        | false =>
          rw [cond_false] at H
          refine o_gnot rfl rfl rfl rfl rfl rfl rfl rfl ?_
          refine o_gnot rfl rfl rfl rfl rfl rfl rfl rfl ?_
          refine o_gnot rfl rfl rfl rfl rfl rfl rfl rfl ?_
          refine o_gnot rfl rfl rfl rfl rfl rfl rfl rfl ?_
          refine o_gnot rfl rfl rfl rfl rfl rfl rfl rfl ?_
          refine o_pu rfl (ev_pick_f rfl rfl rfl) (g0 rfl) rfl rfl ?_
          exact k_wk (J23 false H) [35, 0, 1, 2, 3, 4, 5, 6, 7, 8, 9, 10, 11, 12, 13, 14, 15, 16, 17, 18, 22, 23, 28, 29] [0, 1, 2, 3] 4 [0, 0, 0] 0 rfl rfl rfl
    · intro J19 H
      cases b17 with
      | true =>
        rw [cond_true] at H
        refine o_lit ([107] : List UInt8) rfl rfl rfl rfl Tryd.underlying22 Tryd.underlying5 Tryd.sizeOf5 Tryd.zeroValue5 rfl rfl (fill_all rfl rfl (by simp) rfl rfl) (g1 rfl rfl rfl rfl) rfl rfl rfl rfl (fun _ => (g1 rfl rfl rfl rfl)) rfl rfl ?_
        intro b28
        refine o_pu rfl (ev_move rfl rfl) (g1 rfl rfl rfl rfl) rfl rfl ?_
        obtain ⟨r29, Hc30, H⟩ := bind_some' H
        refine oc (k_call (c_manifest_Signed ([107] : List UInt8) (some ⟨b28, 0, none⟩) 1 r7 A9 c10 r29 Hc30) Tryd.call13 rfl rfl rfl [1, 0] [] rfl rfl (g1 rfl rfl rfl rfl) rfl rfl ?_)
        rintro _ _ _ ⟨rfl, rfl, rfl⟩
        dsimp only [List.cons_append, List.nil_append]
        refine o_pu rfl (ev_pick_t rfl rfl rfl) (g0 rfl) rfl rfl ?_
        exact k_wk (J19 r29 H) [28, 0, 1, 2, 3, 4, 5, 6, 7, 8, 9, 10, 11, 12, 13, 14, 15, 16, 17, 18, 22, 23] [1, 2, 3, 4] 5 [0, 0, 0] 0 rfl rfl rfl
      | false =>
        rw [cond_false] at H
        refine o_gnot rfl rfl rfl rfl rfl rfl rfl rfl ?_
        refine o_gnot rfl rfl rfl rfl rfl rfl rfl rfl ?_
        refine o_gnot rfl rfl rfl rfl rfl rfl rfl rfl ?_
        refine o_gnot rfl rfl rfl rfl rfl rfl rfl rfl ?_
        refine o_pu rfl (ev_pick_f rfl rfl rfl) (g0 rfl) rfl rfl ?_
        exact k_wk (J19 false H) [28, 0, 1, 2, 3, 4, 5, 6, 7, 8, 9, 10, 11, 12, 13, 14, 15, 16, 17, 18, 22, 23] [0, 1, 2, 3] 4 [0, 0, 0] 0 rfl rfl rfl
  · intro J15 H
    cases b13 with
    | true =>
      rw [cond_true] at H
      refine o_pu rfl (ev_move rfl rfl) (g1 rfl rfl rfl rfl) rfl rfl ?_
      refine o_pu rfl (ev_len_slice rfl rfl Tryd.runUnderlying22) (g1 rfl rfl rfl rfl) rfl rfl ?_
      refine o_pu rfl (ev_bin rfl rfl rfl rfl (eql_i _ 92)) (g1 rfl rfl rfl rfl) rfl rfl ?_
      refine o_pu rfl (ev_pick_t rfl rfl rfl) (g0 rfl) rfl rfl ?_
      exact k_wk (J15 ((r7.length : Int) == 92) H) [22, 0, 1, 2, 3, 4, 5, 6, 7, 8, 9, 10, 11, 12, 13, 14, 15, 16, 17, 18] [0, 1, 2, 3] 4 [0, 0, 0] 0 rfl rfl rfl
    | false =>
      rw [cond_false] at H
      refine o_gnot rfl rfl rfl rfl rfl rfl rfl rfl ?_
      refine o_gnot rfl rfl rfl rfl rfl rfl rfl rfl ?_
      refine o_gnot rfl rfl rfl rfl rfl rfl rfl rfl ?_
      refine o_pu rfl (ev_pick_f rfl rfl rfl) (g0 rfl) rfl rfl ?_
      exact k_wk (J15 false H) [22, 0, 1, 2, 3, 4, 5, 6, 7, 8, 9, 10, 11, 12, 13, 14, 15, 16, 17, 18] [0, 1, 2, 3] 4 [0, 0, 0] 0 rfl rfl rfl

def law12_ManifestTorn (a0_key : List UInt8) (a1_m : Mani) (a2_n : Int) : Option Bool :=
(law12_alive ).bind fun r4 =>
bnd (!r4) fun b6 =>
jn (fun x9 =>
bnd x9 fun b10 =>
jn (fun x13 =>
bnd x13 fun b14 =>
jn (fun x17 =>
bif x17 then (
some r4) else (
(manifest_Bytes a0_key a1_m).bind fun r19 =>
bif ((r19.length : Int) == 0) then (
some false) else (
chk (((r19.length : Int) == 0) = false) <|
chk (0 ≤ (0 : Int) ∧ (0 : Int) ≤ (a2_n.tmod (r19.length : Int)) ∧ (a2_n.tmod (r19.length : Int)) ≤ (r19.length : Int)) <|
(manifest_Read (slc r19 (0 : Int) (a2_n.tmod (r19.length : Int)))).bind fun r28 =>
chk (([] : List UInt8).length + r19.length ≤ 68719476736) <|
chk (([] ++ r19).length + ([0] : List UInt8).length ≤ 68719476736) <|
(manifest_Read (([] ++ r19) ++ ([0] : List UInt8))).bind fun r40 =>
(law12_num r28.2.2).bind fun r45 =>
bnd (r45 == 6) fun b47 =>
jn (fun x50 =>
bnd x50 fun b51 =>
jn (fun x54 =>
some x54) fun J53 =>
bif b51 then (
chk (((r19.length : Int) == 0) = false) <|
chk (0 ≤ (0 : Int) ∧ (0 : Int) ≤ (a2_n.tmod (r19.length : Int)) ∧ (a2_n.tmod (r19.length : Int)) ≤ (r19.length : Int)) <|
(manifest_Signed a0_key (slc r19 (0 : Int) (a2_n.tmod (r19.length : Int)))).bind fun r59 =>
J53 (!r59)) else
J53 false) fun J49 =>
bif b47 then (
(law12_num r40.2.2).bind fun r61 =>
J49 (r61 == 6)) else
J49 false))) fun J16 =>
bif b14 then (
J16 true) else
J16 (decide (a2_n < 0))) fun J12 =>
bif b10 then (
J12 true) else
J12 (decide ((a1_m.Name.length : Int) > 100))) fun J8 =>
bif b6 then (
J8 true) else
J8 (decide ((a0_key.length : Int) > 200))

theorem c_law12_ManifestTorn (a0_key : List UInt8) (A1 : Option Addr) (c2 : Nat) (a1_m : Mani) (a2_n : Int) (r : Bool) (H : law12_ManifestTorn a0_key a1_m a2_n = some r) : Fn Tryd.prog 3 [(.slice A1 a0_key.length c2), (.agg (Mani.cells a1_m).toArray), (vi a2_n)] [Sl E8 A1 c2 a0_key] [] (fun v D' G' => v = (vb r) ∧ D' = [] ∧ G' = []) := by
  unfold law12_ManifestTorn at H
  refine fn_of Tryd.func3 rfl Tryd.ntmps3 rfl ?_
  intro w0 D0 G0
  dsimp only [List.cons_append, List.nil_append, initEnv, Nat.zero_add, Nat.reduceAdd]
  refine s_seq ?_
  refine s_reg [0, 1] rfl ?_
  refine oc (k_box rfl rfl rfl (cs := Mani.cells a1_m) rfl (g0 rfl) rfl rfl ?_)
  intro b3
  refine o_pu rfl (ev_assign rfl rfl) (g0 rfl) rfl rfl ?_
  refine o_nil ?_
  refine q_then ?_
  refine s_seq ?_
  refine s_reg [0, 1] rfl ?_
  obtain ⟨r4, Hc5, H⟩ := bind_some' H
  refine oc (k_call (c_law12_alive  r4 Hc5) Tryd.call9 rfl rfl rfl [] [] rfl rfl (g0 rfl) rfl rfl ?_)
  rintro _ _ _ ⟨rfl, rfl, rfl⟩
  dsimp only [List.cons_append, List.nil_append]
  refine o_pu rfl (ev_assign rfl rfl) (g0 rfl) rfl rfl ?_
  refine o_nil ?_
  refine q_then ?_
  refine s_seq ?_
  refine s_seq ?_
  refine s_reg [0, 1, 2, 3, 4, 5, 6, 7, 8, 9, 10, 11, 12, 13, 14, 15, 16] rfl ?_
  refine o_pu rfl (ev_move rfl rfl) (g0 rfl) rfl rfl ?_
  refine o_pu rfl (ev_not rfl rfl) (g0 rfl) rfl rfl ?_
  refine o_pu rfl (ev_move rfl rfl) (g0 rfl) rfl rfl ?_
  refine k_name 18 rfl ?_
  intro b6 hb7
  have H := bnd_eq H hb7
  refine o_jb 22 [7, 8, 9, 10, 11, 12, 13, 14, 15, 16] [0, 1, 2, 4, 6, 7, 15, 16, 17, 18] H rfl ?_ ?_
  · intro x9 H
    refine o_pu rfl (ev_move rfl rfl) (g0 rfl) rfl rfl ?_
    refine k_name 23 rfl ?_
    intro b10 hb11
    have H := bnd_eq H hb11
    refine o_jb 28 [13, 14, 15, 16] [0, 1, 2, 4, 6, 7, 15, 16, 17, 18, 22, 23] H rfl ?_ ?_
    · intro x13 H
      refine o_pu rfl (ev_move rfl rfl) (g0 rfl) rfl rfl ?_
      refine k_name 29 rfl ?_
      intro b14 hb15
      have H := bnd_eq H hb15
      refine o_jb 32 [] [0, 1, 2, 4, 6, 7, 15, 16, 17, 18, 22, 23, 28, 29] H rfl ?_ ?_
      · intro x17 H
        refine o_nil ?_
        refine q_then ?_
        refine s_cond rfl ?_ ?_
        · intro hb18
          have H := cnd_t H hb18
          refine s_seq ?_
          refine s_reg [0, 1] rfl ?_
          refine o_pu rfl (ev_move rfl rfl) (g0 rfl) rfl rfl ?_
          refine o_pu rfl (ev_assign rfl rfl) (g0 rfl) rfl rfl ?_
          refine o_nil ?_
          refine q_then ?_
          refine s_ret ?_
          refine q_then_r ?_
          cases H
          exact q_end (rs_1 Tryd.results3 (rv_tmp rfl)) ⟨rfl, rfl, rfl⟩ [] rfl 1 rfl [] rfl 1 rfl
        · intro hb18
          have H := cnd_f H hb18
          refine s_skip ?_
          refine q_then ?_
          refine s_seq ?_
          refine s_reg [0, 1, 2, 3] rfl ?_
          refine o_pu rfl (ev_move rfl rfl) (g0 rfl) rfl rfl ?_
          refine o_ld (hG 0 rfl) rfl (ev_ldN (j := 0) rfl rfl Tryd.isAgg27 (sz (Mani.len _) Tryd.sizeOf27) (sub_all _) rfl) (g0 rfl) rfl rfl ?_
          obtain ⟨r19, Hc20, H⟩ := bind_some' H
          refine oc (k_call (c_manifest_Bytes a0_key A1 c2 a1_m r19 Hc20) Tryd.call10 rfl rfl rfl [0] [] rfl rfl (g0 rfl) rfl rfl ?_)
          rintro _ _ _ ⟨A21, c22, rfl, rfl, rfl⟩
          dsimp only [List.cons_append, List.nil_append]
          refine o_pu rfl (ev_assign rfl rfl) (g0 rfl) rfl rfl ?_
          refine o_nil ?_
          refine q_then ?_
          refine s_seq ?_
          refine s_seq ?_
          refine s_reg [0, 1, 2] rfl ?_
          refine o_pu rfl (ev_move rfl rfl) (g0 rfl) rfl rfl ?_
          refine o_pu rfl (ev_len_slice rfl rfl Tryd.runUnderlying22) (g0 rfl) rfl rfl ?_
          refine o_pu rfl (ev_bin rfl rfl rfl rfl (eql_i _ 0)) (g0 rfl) rfl rfl ?_
          refine o_nil ?_
          refine q_then ?_
          refine s_cond rfl ?_ ?_
          · intro hb23
            have H := cnd_t H hb23
            refine s_seq ?_
            refine s_reg [0] rfl ?_
            refine o_pu rfl (ev_assign rfl rfl) (g0 rfl) rfl rfl ?_
            refine o_nil ?_
            refine q_then ?_
            refine s_ret ?_
            refine q_then_r ?_
            cases H
            exact q_end (rs_1 Tryd.results3 (rv_tmp rfl)) ⟨rfl, rfl, rfl⟩ [] rfl 2 rfl [] rfl 2 rfl
          · intro hb23
            have H := cnd_f H hb23
            refine s_skip ?_
            refine q_then ?_
            refine s_seq ?_
            refine s_reg [0, 1, 2, 3, 4, 5, 6, 7, 8, 9, 10, 11, 12, 13, 14] rfl ?_
            refine o_pu rfl (ev_move rfl rfl) (g0 rfl) rfl rfl ?_
            refine o_pu rfl (ev_move rfl rfl) (g0 rfl) rfl rfl ?_
            refine o_pu rfl (ev_move rfl rfl) (g0 rfl) rfl rfl ?_
            refine o_pu rfl (ev_len_slice rfl rfl Tryd.runUnderlying22) (g0 rfl) rfl rfl ?_
            obtain ⟨hk24, H⟩ := chk_some H
            refine o_pu rfl (ev_bin rfl rfl rfl rfl (rem_i _ _ hk24)) (g0 rfl) rfl rfl ?_
            obtain ⟨hk27, H⟩ := chk_some H
            refine oc (k_slice (ka := .i64) (a := (0 : Int)) (b := (a2_n.tmod (r19.length : Int))) 0 rfl rfl rfl rfl E8_len Tryd.runUnderlying22 Tryd.sizeOf5 (.inl ⟨rfl, rfl⟩) (.inr rfl) hk27 (g0 rfl) rfl rfl ?_)
            intro A25 c26
            obtain ⟨r28, Hc29, H⟩ := bind_some' H
            refine oc (k_call (c_manifest_Read (slc r19 (0 : Int) (a2_n.tmod (r19.length : Int))) A25 c26 r28 Hc29) Tryd.call11 rfl rfl rfl [0] [] rfl rfl (g0 rfl) rfl rfl ?_)
            rintro _ _ _ ⟨A30, c31, rfl, rfl, rfl⟩
            dsimp only [List.cons_append, List.nil_append]
            refine o_pu rfl (ev_move rfl rfl) (g0 rfl) rfl rfl ?_
            refine o_pu rfl (ev_extract rfl rfl rfl) (g0 rfl) rfl rfl ?_
            refine o_pu rfl (ev_extract rfl rfl rfl) (g0 rfl) rfl rfl ?_
            refine o_pu rfl (ev_extract rfl rfl rfl) (g0 rfl) rfl rfl ?_
            refine oc (k_alloc rfl rfl Tryd.zeroValue27 (cs := Mani.cells Mani.zero) rfl (g0 rfl) rfl rfl ?_)
            intro b32
            refine oc (k_st (j := 0) rfl rfl rfl rfl (vs := Mani.cells r28.1) rfl (sz (Mani.len _) Tryd.sizeOf27) (Mani.sc _) 0 rfl (spl_all ((Mani.len _).trans (Mani.len _).symm)) rfl (g0 rfl) rfl ?_)
            refine o_pu rfl (ev_assign rfl rfl) (g0 rfl) rfl rfl ?_
            refine o_pu rfl (ev_assign rfl rfl) (g0 rfl) rfl rfl ?_
            refine o_nil ?_
            refine q_then ?_
            refine s_seq ?_
            refine s_reg [0, 1, 2, 3, 4, 5, 6, 7, 8, 9, 10, 11, 12] rfl ?_
            refine o_pu rfl (ev_move rfl rfl) (g0 rfl) rfl rfl ?_
            refine k_nil_spare 1 ?_
            refine k_nil_sl E8 ?_
            obtain ⟨hk35, H⟩ := chk_some H
            refine oc (k_append (xs := []) 0 3 0 rfl rfl rfl rfl rfl rfl rfl E8_len E8_one Tryd.underlying22 Tryd.underlying22 info5 rfl rfl rfl rfl hk35 (g0 rfl) rfl rfl ?_)
            intro A33 c34
            refine oc (k_buildSlice (f := E8) ([0] : List UInt8) rfl rfl rfl rfl Tryd.runUnderlying22 Tryd.sizeOf5 Tryd.zeroValue5 rfl rfl (fill_all rfl rfl (by simp) rfl rfl) (g0 rfl) rfl rfl ?_)
            intro b36
            obtain ⟨hk39, H⟩ := chk_some H
            refine oc (k_append 1 0 0 rfl rfl rfl rfl rfl rfl rfl E8_len E8_one Tryd.underlying22 Tryd.underlying22 info5 rfl rfl rfl rfl hk39 (g0 rfl) rfl rfl ?_)
            intro A37 c38
            obtain ⟨r40, Hc41, H⟩ := bind_some' H
            refine oc (k_call (c_manifest_Read (([] ++ r19) ++ ([0] : List UInt8)) A37 c38 r40 Hc41) Tryd.call11 rfl rfl rfl [0] [] rfl rfl (g0 rfl) rfl rfl ?_)
            rintro _ _ _ ⟨A42, c43, rfl, rfl, rfl⟩
            dsimp only [List.cons_append, List.nil_append]
            refine o_pu rfl (ev_move rfl rfl) (g0 rfl) rfl rfl ?_
            refine o_pu rfl (ev_extract rfl rfl rfl) (g0 rfl) rfl rfl ?_
            refine o_pu rfl (ev_extract rfl rfl rfl) (g0 rfl) rfl rfl ?_
            refine o_pu rfl (ev_extract rfl rfl rfl) (g0 rfl) rfl rfl ?_
            refine oc (k_alloc rfl rfl Tryd.zeroValue27 (cs := Mani.cells Mani.zero) rfl (g0 rfl) rfl rfl ?_)
            intro b44
            refine oc (k_st (j := 0) rfl rfl rfl rfl (vs := Mani.cells r40.1) rfl (sz (Mani.len _) Tryd.sizeOf27) (Mani.sc _) 0 rfl (spl_all ((Mani.len _).trans (Mani.len _).symm)) rfl (g0 rfl) rfl ?_)
            refine o_pu rfl (ev_assign rfl rfl) (g0 rfl) rfl rfl ?_
            refine o_pu rfl (ev_assign rfl rfl) (g0 rfl) rfl rfl ?_
            refine o_nil ?_
            refine q_then ?_
            refine s_seq ?_
            refine s_reg [0, 1, 2, 3, 4, 5, 6, 7, 8, 9, 10, 11, 12, 13, 14, 15, 16, 17, 18, 19] rfl ?_
            refine o_pu rfl (ev_move rfl rfl) (g0 rfl) rfl rfl ?_
            obtain ⟨r45, Hc46, H⟩ := bind_some' H
            refine oc (k_call (c_law12_num r28.2.2 r45 Hc46) Tryd.call12 rfl rfl rfl [] [] rfl rfl (g0 rfl) rfl rfl ?_)
            rintro _ _ _ ⟨rfl, rfl, rfl⟩
            dsimp only [List.cons_append, List.nil_append]
            refine o_pu rfl (ev_bin rfl rfl rfl rfl (eql_i _ 6)) (g0 rfl) rfl rfl ?_
            refine o_pu rfl (ev_move rfl rfl) (g0 rfl) rfl rfl ?_
            refine k_name 63 rfl ?_
            intro b47 hb48
            have H := bnd_eq H hb48
            refine o_jb 67 [8, 9, 10, 11, 12, 13, 14, 15, 16, 17, 18, 19] [0, 1, 2, 4, 6, 7, 8, 9, 10, 11, 12, 13, 14, 15, 16, 17, 18, 22, 23, 28, 29, 32, 34, 35, 36, 37, 38, 39, 40, 41, 42, 43, 44, 45, 46, 47, 48, 49, 50, 51, 52, 53, 54, 55, 56, 57, 58, 59, 60, 61, 62, 63] H rfl ?_ ?_
            · intro x50 H
              refine o_pu rfl (ev_move rfl rfl) (g0 rfl) rfl rfl ?_
              refine k_name 68 rfl ?_
              intro b51 hb52
              have H := bnd_eq H hb52
              refine o_jb 78 [19] [0, 1, 2, 4, 6, 7, 8, 9, 10, 11, 12, 13, 14, 15, 16, 17, 18, 22, 23, 28, 29, 32, 34, 35, 36, 37, 38, 39, 40, 41, 42, 43, 44, 45, 46, 47, 48, 49, 50, 51, 52, 53, 54, 55, 56, 57, 58, 59, 60, 61, 62, 63, 67, 68] H rfl ?_ ?_
              · intro x54 H
                refine o_pu rfl (ev_assign rfl rfl) (g0 rfl) rfl rfl ?_
                refine o_nil ?_
                refine q_then ?_
                refine s_ret ?_
                cases H
                exact q_end (rs_1 Tryd.results3 (rv_tmp rfl)) ⟨rfl, rfl, rfl⟩ [] rfl 9 rfl [] rfl 7 rfl
              · intro J53 H
                cases b51 with
                | true =>
                  rw [cond_true] at H
                  refine o_pu rfl (ev_move rfl rfl) (g1 rfl rfl rfl rfl) rfl rfl ?_
                  refine o_pu rfl (ev_move rfl rfl) (g1 rfl rfl rfl rfl) rfl rfl ?_
                  refine o_pu rfl (ev_move rfl rfl) (g1 rfl rfl rfl rfl) rfl rfl ?_
                  refine o_pu rfl (ev_move rfl rfl) (g1 rfl rfl rfl rfl) rfl rfl ?_
                  refine o_pu rfl (ev_len_slice rfl rfl Tryd.runUnderlying22) (g1 rfl rfl rfl rfl) rfl rfl ?_
                  obtain ⟨hk55, H⟩ := chk_some H
                  refine o_pu rfl (ev_bin rfl rfl rfl rfl (rem_i _ _ hk55)) (g1 rfl rfl rfl rfl) rfl rfl ?_
                  obtain ⟨hk58, H⟩ := chk_some H
                  refine oc (k_slice (ka := .i64) (a := (0 : Int)) (b := (a2_n.tmod (r19.length : Int))) 7 rfl rfl rfl rfl E8_len Tryd.runUnderlying22 Tryd.sizeOf5 (.inl ⟨rfl, rfl⟩) (.inr rfl) hk58 (g1 rfl rfl rfl rfl) rfl rfl ?_)
                  intro A56 c57
                  obtain ⟨r59, Hc60, H⟩ := bind_some' H
                  refine oc (k_call (c_manifest_Signed a0_key A1 c2 (slc r19 (0 : Int) (a2_n.tmod (r19.length : Int))) A56 c57 r59 Hc60) Tryd.call13 rfl rfl rfl [0, 9] [] rfl rfl (g1 rfl rfl rfl rfl) rfl rfl ?_)
                  rintro _ _ _ ⟨rfl, rfl, rfl⟩
                  dsimp only [List.cons_append, List.nil_append]
                  refine o_pu rfl (ev_not rfl rfl) (g1 rfl rfl rfl rfl) rfl rfl ?_
                  refine o_pu rfl (ev_pick_t rfl rfl rfl) (g0 rfl) rfl rfl ?_
                  exact k_wk (J53 (!r59) H) [78, 0, 1, 2, 4, 6, 7, 8, 9, 10, 11, 12, 13, 14, 15, 16, 17, 18, 22, 23, 28, 29, 32, 34, 35, 36, 37, 38, 39, 40, 41, 42, 43, 44, 45, 46, 47, 48, 49, 50, 51, 52, 53, 54, 55, 56, 57, 58, 59, 60, 61, 62, 63, 67, 68] [1, 2, 3, 4, 5, 6, 7, 8, 9] 10 [0, 0, 0, 0, 0, 0, 0] 0 rfl rfl rfl
                | false =>
                  rw [cond_false] at H
                  refine o_gnot rfl rfl rfl rfl rfl rfl rfl rfl ?_
                  refine o_gnot rfl rfl rfl rfl rfl rfl rfl rfl ?_
                  refine o_gnot rfl rfl rfl rfl rfl rfl rfl rfl ?_
                  refine o_gnot rfl rfl rfl rfl rfl rfl rfl rfl ?_
                  refine o_gnot rfl rfl rfl rfl rfl rfl rfl rfl ?_
                  refine o_gnot rfl rfl rfl rfl rfl rfl rfl rfl ?_
                  refine o_gnot rfl rfl rfl rfl rfl rfl rfl rfl ?_
                  refine o_gnot rfl rfl rfl rfl rfl rfl rfl rfl ?_
                  refine o_gnot rfl rfl rfl rfl rfl rfl rfl rfl ?_
                  refine o_pu rfl (ev_pick_f rfl rfl rfl) (g0 rfl) rfl rfl ?_
                  exact k_wk (J53 false H) [78, 0, 1, 2, 4, 6, 7, 8, 9, 10, 11, 12, 13, 14, 15, 16, 17, 18, 22, 23, 28, 29, 32, 34, 35, 36, 37, 38, 39, 40, 41, 42, 43, 44, 45, 46, 47, 48, 49, 50, 51, 52, 53, 54, 55, 56, 57, 58, 59, 60, 61, 62, 63, 67, 68] [0, 1, 2, 3, 4, 5, 6, 7, 8] 9 [0, 0, 0, 0, 0, 0, 0] 0 rfl rfl rfl
            · intro J49 H
              cases b47 with
              | true =>
                rw [cond_true] at H
                refine o_pu rfl (ev_move rfl rfl) (g1 rfl rfl rfl rfl) rfl rfl ?_
                obtain ⟨r61, Hc62, H⟩ := bind_some' H
                refine oc (k_call (c_law12_num r40.2.2 r61 Hc62) Tryd.call12 rfl rfl rfl [] [] rfl rfl (g1 rfl rfl rfl rfl) rfl rfl ?_)
                rintro _ _ _ ⟨rfl, rfl, rfl⟩
                dsimp only [List.cons_append, List.nil_append]
                refine o_pu rfl (ev_bin rfl rfl rfl rfl (eql_i _ 6)) (g1 rfl rfl rfl rfl) rfl rfl ?_
                refine o_pu rfl (ev_pick_t rfl rfl rfl) (g0 rfl) rfl rfl ?_
                exact k_wk (J49 (r61 == 6) H) [67, 0, 1, 2, 4, 6, 7, 8, 9, 10, 11, 12, 13, 14, 15, 16, 17, 18, 22, 23, 28, 29, 32, 34, 35, 36, 37, 38, 39, 40, 41, 42, 43, 44, 45, 46, 47, 48, 49, 50, 51, 52, 53, 54, 55, 56, 57, 58, 59, 60, 61, 62, 63] [0, 1, 2, 3, 4, 5, 6, 7, 8] 9 [0, 0, 0, 0, 0, 0, 0] 0 rfl rfl rfl
              | false =>
                rw [cond_false] at H
                refine o_gnot rfl rfl rfl rfl rfl rfl rfl rfl ?_
                refine o_gnot rfl rfl rfl rfl rfl rfl rfl rfl ?_
                refine o_gnot rfl rfl rfl rfl rfl rfl rfl rfl ?_
                refine o_pu rfl (ev_pick_f rfl rfl rfl) (g0 rfl) rfl rfl ?_
                exact k_wk (J49 false H) [67, 0, 1, 2, 4, 6, 7, 8, 9, 10, 11, 12, 13, 14, 15, 16, 17, 18, 22, 23, 28, 29, 32, 34, 35, 36, 37, 38, 39, 40, 41, 42, 43, 44, 45, 46, 47, 48, 49, 50, 51, 52, 53, 54, 55, 56, 57, 58, 59, 60, 61, 62, 63] [0, 1, 2, 3, 4, 5, 6, 7, 8] 9 [0, 0, 0, 0, 0, 0, 0] 0 rfl rfl rfl
      · intro J16 H
        cases b14 with
        | true =>
          rw [cond_true] at H
          refine o_gnot rfl rfl rfl rfl rfl rfl rfl rfl ?_
          refine o_gnot rfl rfl rfl rfl rfl rfl rfl rfl ?_
          refine o_pu rfl (ev_pick_t rfl rfl rfl) (g0 rfl) rfl rfl ?_
          exact k_wk (J16 true H) [32, 0, 1, 2, 4, 6, 7, 15, 16, 17, 18, 22, 23, 28, 29] [0] 1 [0] 0 rfl rfl rfl
        | false =>
          rw [cond_false] at H
          refine o_pu rfl (ev_move rfl rfl) (g1 rfl rfl rfl rfl) rfl rfl ?_
          refine o_pu rfl (ev_bin rfl rfl rfl rfl (lss_i _ 0)) (g1 rfl rfl rfl rfl) rfl rfl ?_
          refine o_pu rfl (ev_pick_f rfl rfl rfl) (g0 rfl) rfl rfl ?_
          exact k_wk (J16 (decide (a2_n < 0)) H) [32, 0, 1, 2, 4, 6, 7, 15, 16, 17, 18, 22, 23, 28, 29] [0] 1 [0] 0 rfl rfl rfl
    · intro J12 H
      cases b10 with
      | true =>
        rw [cond_true] at H
        refine o_gnot rfl rfl rfl rfl rfl rfl rfl rfl ?_
        refine o_gnot rfl rfl rfl rfl rfl rfl rfl rfl ?_
        refine o_gnot rfl rfl rfl rfl rfl rfl rfl rfl ?_
        refine o_gnot rfl rfl rfl rfl rfl rfl rfl rfl ?_
        refine o_pu rfl (ev_pick_t rfl rfl rfl) (g0 rfl) rfl rfl ?_
        exact k_wk (J12 true H) [28, 0, 1, 2, 4, 6, 7, 15, 16, 17, 18, 22, 23] [0] 1 [0] 0 rfl rfl rfl
      | false =>
        rw [cond_false] at H
        refine o_pu rfl (ev_fieldAddr rfl rfl Tryd.runUnderlying27 rfl Tryd.sizeOf9 rfl rfl) (g1 rfl rfl rfl rfl) rfl rfl ?_
        refine o_ld (hG 0 rfl) rfl (ev_ld1 (j := 0) rfl rfl Tryd.isAgg9 (Mani.sub_Name _) rfl) (g1 rfl rfl rfl rfl) rfl rfl ?_
        refine o_pu rfl (ev_len_string rfl rfl Tryd.runUnderlying9) (g1 rfl rfl rfl rfl) rfl rfl ?_
        refine o_pu rfl (ev_bin rfl rfl rfl rfl (gtr_i _ 100)) (g1 rfl rfl rfl rfl) rfl rfl ?_
        refine o_pu rfl (ev_pick_f rfl rfl rfl) (g0 rfl) rfl rfl ?_
        exact k_wk (J12 (decide ((a1_m.Name.length : Int) > 100)) H) [28, 0, 1, 2, 4, 6, 7, 15, 16, 17, 18, 22, 23] [0] 1 [0] 0 rfl rfl rfl
  · intro J8 H
    cases b6 with
    | true =>
      rw [cond_true] at H
      refine o_gnot rfl rfl rfl rfl rfl rfl rfl rfl ?_
      refine o_gnot rfl rfl rfl rfl rfl rfl rfl rfl ?_
      refine o_gnot rfl rfl rfl rfl rfl rfl rfl rfl ?_
      refine o_pu rfl (ev_pick_t rfl rfl rfl) (g0 rfl) rfl rfl ?_
      exact k_wk (J8 true H) [22, 0, 1, 2, 4, 6, 7, 15, 16, 17, 18] [0] 1 [0] 0 rfl rfl rfl
    | false =>
      rw [cond_false] at H
      refine o_pu rfl (ev_move rfl rfl) (g1 rfl rfl rfl rfl) rfl rfl ?_
      refine o_pu rfl (ev_len_slice rfl rfl Tryd.runUnderlying22) (g1 rfl rfl rfl rfl) rfl rfl ?_
      refine o_pu rfl (ev_bin rfl rfl rfl rfl (gtr_i _ 200)) (g1 rfl rfl rfl rfl) rfl rfl ?_
      refine o_pu rfl (ev_pick_f rfl rfl rfl) (g0 rfl) rfl rfl ?_
      exact k_wk (J8 (decide ((a0_key.length : Int) > 200)) H) [22, 0, 1, 2, 4, 6, 7, 15, 16, 17, 18] [0] 1 [0] 0 rfl rfl rfl

def law12_ManifestLimits (a0_which : Int) : Option Bool :=
(law12_alive ).bind fun r1 =>
bnd (!r1) fun b5 =>
jn (fun x8 =>
bnd x8 fun b9 =>
jn (fun x12 =>
bif x12 then (
some r1) else (
chk (0 ≤ a0_which ∧ a0_which < ([(⟨([97] : List UInt8), (⟨1, 1, (Arr.zero 0 32)⟩ : Img)⟩ : Mani), (⟨([97] : List UInt8), (⟨0, 1, (Arr.zero 0 32)⟩ : Img)⟩ : Mani), (⟨([97] : List UInt8), (⟨1, 0, (Arr.zero 0 32)⟩ : Img)⟩ : Mani), (⟨([97] : List UInt8), (⟨1073741824, 1073741824, (Arr.zero 0 32)⟩ : Img)⟩ : Mani), (⟨([97] : List UInt8), (⟨1073741825, 1, (Arr.zero 0 32)⟩ : Img)⟩ : Mani), (⟨([97] : List UInt8), (⟨1, 1073741825, (Arr.zero 0 32)⟩ : Img)⟩ : Mani), (⟨[], (⟨1, 1, (Arr.zero 0 32)⟩ : Img)⟩ : Mani), (⟨([65] : List UInt8), (⟨1, 1, (Arr.zero 0 32)⟩ : Img)⟩ : Mani), (⟨([206, 177, 206, 178, 206, 179, 206, 180, 206, 181, 206, 182, 206, 183, 206, 184] : List UInt8), (⟨1, 1, (Arr.zero 0 32)⟩ : Img)⟩ : Mani), (⟨([97, 98, 99, 100, 101, 102, 103, 104, 105] : List UInt8), (⟨1, 1, (Arr.zero 0 32)⟩ : Img)⟩ : Mani)] : List Mani).length) <|
(manifest_Bytes ([107] : List UInt8) (at' Mani.zero ([(⟨([97] : List UInt8), (⟨1, 1, (Arr.zero 0 32)⟩ : Img)⟩ : Mani), (⟨([97] : List UInt8), (⟨0, 1, (Arr.zero 0 32)⟩ : Img)⟩ : Mani), (⟨([97] : List UInt8), (⟨1, 0, (Arr.zero 0 32)⟩ : Img)⟩ : Mani), (⟨([97] : List UInt8), (⟨1073741824, 1073741824, (Arr.zero 0 32)⟩ : Img)⟩ : Mani), (⟨([97] : List UInt8), (⟨1073741825, 1, (Arr.zero 0 32)⟩ : Img)⟩ : Mani), (⟨([97] : List UInt8), (⟨1, 1073741825, (Arr.zero 0 32)⟩ : Img)⟩ : Mani), (⟨[], (⟨1, 1, (Arr.zero 0 32)⟩ : Img)⟩ : Mani), (⟨([65] : List UInt8), (⟨1, 1, (Arr.zero 0 32)⟩ : Img)⟩ : Mani), (⟨([206, 177, 206, 178, 206, 179, 206, 180, 206, 181, 206, 182, 206, 183, 206, 184] : List UInt8), (⟨1, 1, (Arr.zero 0 32)⟩ : Img)⟩ : Mani), (⟨([97, 98, 99, 100, 101, 102, 103, 104, 105] : List UInt8), (⟨1, 1, (Arr.zero 0 32)⟩ : Img)⟩ : Mani)] : List Mani) a0_which)).bind fun r18 =>
(manifest_Read r18).bind fun r22 =>
chk (0 ≤ a0_which ∧ a0_which < ([true, false, false, true, false, false, false, false, true, false] : List Bool).length) <|
bif (at' false ([true, false, false, true, false, false, false, false, true, false] : List Bool) a0_which) then (
jn (fun (x32 : Bool) =>
some x32) fun J31 =>
(law12_num r22.2.2).bind fun r34 =>
bnd (r34 == 0) fun b36 =>
bif b36 then (
chk (0 ≤ a0_which ∧ a0_which < ([(⟨([97] : List UInt8), (⟨1, 1, (Arr.zero 0 32)⟩ : Img)⟩ : Mani), (⟨([97] : List UInt8), (⟨0, 1, (Arr.zero 0 32)⟩ : Img)⟩ : Mani), (⟨([97] : List UInt8), (⟨1, 0, (Arr.zero 0 32)⟩ : Img)⟩ : Mani), (⟨([97] : List UInt8), (⟨1073741824, 1073741824, (Arr.zero 0 32)⟩ : Img)⟩ : Mani), (⟨([97] : List UInt8), (⟨1073741825, 1, (Arr.zero 0 32)⟩ : Img)⟩ : Mani), (⟨([97] : List UInt8), (⟨1, 1073741825, (Arr.zero 0 32)⟩ : Img)⟩ : Mani), (⟨[], (⟨1, 1, (Arr.zero 0 32)⟩ : Img)⟩ : Mani), (⟨([65] : List UInt8), (⟨1, 1, (Arr.zero 0 32)⟩ : Img)⟩ : Mani), (⟨([206, 177, 206, 178, 206, 179, 206, 180, 206, 181, 206, 182, 206, 183, 206, 184] : List UInt8), (⟨1, 1, (Arr.zero 0 32)⟩ : Img)⟩ : Mani), (⟨([97, 98, 99, 100, 101, 102, 103, 104, 105] : List UInt8), (⟨1, 1, (Arr.zero 0 32)⟩ : Img)⟩ : Mani)] : List Mani).length) <|
J31 (decide (r22.1 = (at' Mani.zero ([(⟨([97] : List UInt8), (⟨1, 1, (Arr.zero 0 32)⟩ : Img)⟩ : Mani), (⟨([97] : List UInt8), (⟨0, 1, (Arr.zero 0 32)⟩ : Img)⟩ : Mani), (⟨([97] : List UInt8), (⟨1, 0, (Arr.zero 0 32)⟩ : Img)⟩ : Mani), (⟨([97] : List UInt8), (⟨1073741824, 1073741824, (Arr.zero 0 32)⟩ : Img)⟩ : Mani), (⟨([97] : List UInt8), (⟨1073741825, 1, (Arr.zero 0 32)⟩ : Img)⟩ : Mani), (⟨([97] : List UInt8), (⟨1, 1073741825, (Arr.zero 0 32)⟩ : Img)⟩ : Mani), (⟨[], (⟨1, 1, (Arr.zero 0 32)⟩ : Img)⟩ : Mani), (⟨([65] : List UInt8), (⟨1, 1, (Arr.zero 0 32)⟩ : Img)⟩ : Mani), (⟨([206, 177, 206, 178, 206, 179, 206, 180, 206, 181, 206, 182, 206, 183, 206, 184] : List UInt8), (⟨1, 1, (Arr.zero 0 32)⟩ : Img)⟩ : Mani), (⟨([97, 98, 99, 100, 101, 102, 103, 104, 105] : List UInt8), (⟨1, 1, (Arr.zero 0 32)⟩ : Img)⟩ : Mani)] : List Mani) a0_which)))) else (
J31 false)) else (
(law12_num r22.2.2).bind fun r41 =>
bnd (r41 == 6) fun b43 =>
jn (fun x46 =>
some x46) fun J45 =>
bif b43 then (
J45 (decide (r22.1 = Mani.zero))) else
J45 false))) fun J11 =>
bif b9 then (
J11 true) else
J11 (decide (a0_which ≥ (([(⟨([97] : List UInt8), (⟨1, 1, (Arr.zero 0 32)⟩ : Img)⟩ : Mani), (⟨([97] : List UInt8), (⟨0, 1, (Arr.zero 0 32)⟩ : Img)⟩ : Mani), (⟨([97] : List UInt8), (⟨1, 0, (Arr.zero 0 32)⟩ : Img)⟩ : Mani), (⟨([97] : List UInt8), (⟨1073741824, 1073741824, (Arr.zero 0 32)⟩ : Img)⟩ : Mani), (⟨([97] : List UInt8), (⟨1073741825, 1, (Arr.zero 0 32)⟩ : Img)⟩ : Mani), (⟨([97] : List UInt8), (⟨1, 1073741825, (Arr.zero 0 32)⟩ : Img)⟩ : Mani), (⟨[], (⟨1, 1, (Arr.zero 0 32)⟩ : Img)⟩ : Mani), (⟨([65] : List UInt8), (⟨1, 1, (Arr.zero 0 32)⟩ : Img)⟩ : Mani), (⟨([206, 177, 206, 178, 206, 179, 206, 180, 206, 181, 206, 182, 206, 183, 206, 184] : List UInt8), (⟨1, 1, (Arr.zero 0 32)⟩ : Img)⟩ : Mani), (⟨([97, 98, 99, 100, 101, 102, 103, 104, 105] : List UInt8), (⟨1, 1, (Arr.zero 0 32)⟩ : Img)⟩ : Mani)] : List Mani).length : Int)))) fun J7 =>
bif b5 then (
J7 true) else
J7 (decide (a0_which < 0))

theorem c_law12_ManifestLimits (a0_which : Int) (r : Bool) (H : law12_ManifestLimits a0_which = some r) : Fn Tryd.prog 4 [(vi a0_which)] [] [] (fun v D' G' => v = (vb r) ∧ D' = [] ∧ G' = []) := by
  unfold law12_ManifestLimits at H
  refine fn_of Tryd.func4 rfl Tryd.ntmps4 rfl ?_
  intro w0 D0 G0
  dsimp only [List.cons_append, List.nil_append, initEnv, Nat.zero_add, Nat.reduceAdd]
  refine s_seq ?_
  refine s_reg [0] rfl ?_
  refine o_pu rfl (ev_assign rfl rfl) (g0 rfl) rfl rfl ?_
  refine o_nil ?_
  refine q_then ?_
  refine s_seq ?_
  refine s_reg [0, 1] rfl ?_
  obtain ⟨r1, Hc2, H⟩ := bind_some' H
  refine oc (k_call (c_law12_alive  r1 Hc2) Tryd.call9 rfl rfl rfl [] [] rfl rfl (g0 rfl) rfl rfl ?_)
  rintro _ _ _ ⟨rfl, rfl, rfl⟩
  dsimp only [List.cons_append, List.nil_append]
  refine o_pu rfl (ev_assign rfl rfl) (g0 rfl) rfl rfl ?_
  refine o_nil ?_
  refine q_then ?_
  refine s_seq ?_
  refine s_reg [0, 1, 2, 3, 4, 5, 6, 7, 8, 9, 10, 11, 12, 13, 14, 15, 16, 17, 18, 19, 20, 21] rfl ?_
  refine o_pu rfl (ev_build (cs := Img.cells (⟨1, 1, (Arr.zero 0 32)⟩ : Img)) rfl rfl Tryd.zeroValue25 Tryd.runUnderlying25 pl25 (show Instr.fill _ (Img.cells Img.zero).toArray _ = some _ from (fill_cons rfl (s := [vi 1]) rfl rfl (Img.set_Version _ 1) (fill_cons rfl (s := [vi 1]) rfl rfl (Img.set_Size _ 1) fill_nil)))) (g0 rfl) rfl rfl ?_
  refine o_pu rfl (ev_build (cs := Mani.cells (⟨([97] : List UInt8), (⟨1, 1, (Arr.zero 0 32)⟩ : Img)⟩ : Mani)) rfl rfl Tryd.zeroValue27 Tryd.runUnderlying27 pl27 (show Instr.fill _ (Mani.cells Mani.zero).toArray _ = some _ from (fill_cons rfl (s := [vs ([97] : List UInt8)]) rfl rfl (Mani.set_Name _ ([97] : List UInt8)) (fill_cons rfl (s := Img.cells (⟨1, 1, (Arr.zero 0 32)⟩ : Img)) rfl (Img.len _) (Mani.set_Image _ (⟨1, 1, (Arr.zero 0 32)⟩ : Img)) fill_nil)))) (g0 rfl) rfl rfl ?_
  refine o_pu rfl (ev_build (cs := Img.cells (⟨0, 1, (Arr.zero 0 32)⟩ : Img)) rfl rfl Tryd.zeroValue25 Tryd.runUnderlying25 pl25 (show Instr.fill _ (Img.cells Img.zero).toArray _ = some _ from (fill_cons rfl (s := [vi 1]) rfl rfl (Img.set_Size _ 1) fill_nil))) (g0 rfl) rfl rfl ?_
  refine o_pu rfl (ev_build (cs := Mani.cells (⟨([97] : List UInt8), (⟨0, 1, (Arr.zero 0 32)⟩ : Img)⟩ : Mani)) rfl rfl Tryd.zeroValue27 Tryd.runUnderlying27 pl27 (show Instr.fill _ (Mani.cells Mani.zero).toArray _ = some _ from (fill_cons rfl (s := [vs ([97] : List UInt8)]) rfl rfl (Mani.set_Name _ ([97] : List UInt8)) (fill_cons rfl (s := Img.cells (⟨0, 1, (Arr.zero 0 32)⟩ : Img)) rfl (Img.len _) (Mani.set_Image _ (⟨0, 1, (Arr.zero 0 32)⟩ : Img)) fill_nil)))) (g0 rfl) rfl rfl ?_
  refine o_pu rfl (ev_build (cs := Img.cells (⟨1, 0, (Arr.zero 0 32)⟩ : Img)) rfl rfl Tryd.zeroValue25 Tryd.runUnderlying25 pl25 (show Instr.fill _ (Img.cells Img.zero).toArray _ = some _ from (fill_cons rfl (s := [vi 1]) rfl rfl (Img.set_Version _ 1) fill_nil))) (g0 rfl) rfl rfl ?_
  refine o_pu rfl (ev_build (cs := Mani.cells (⟨([97] : List UInt8), (⟨1, 0, (Arr.zero 0 32)⟩ : Img)⟩ : Mani)) rfl rfl Tryd.zeroValue27 Tryd.runUnderlying27 pl27 (show Instr.fill _ (Mani.cells Mani.zero).toArray _ = some _ from (fill_cons rfl (s := [vs ([97] : List UInt8)]) rfl rfl (Mani.set_Name _ ([97] : List UInt8)) (fill_cons rfl (s := Img.cells (⟨1, 0, (Arr.zero 0 32)⟩ : Img)) rfl (Img.len _) (Mani.set_Image _ (⟨1, 0, (Arr.zero 0 32)⟩ : Img)) fill_nil)))) (g0 rfl) rfl rfl ?_
  refine o_pu rfl (ev_build (cs := Img.cells (⟨1073741824, 1073741824, (Arr.zero 0 32)⟩ : Img)) rfl rfl Tryd.zeroValue25 Tryd.runUnderlying25 pl25 (show Instr.fill _ (Img.cells Img.zero).toArray _ = some _ from (fill_cons rfl (s := [vi 1073741824]) rfl rfl (Img.set_Version _ 1073741824) (fill_cons rfl (s := [vi 1073741824]) rfl rfl (Img.set_Size _ 1073741824) fill_nil)))) (g0 rfl) rfl rfl ?_
  refine o_pu rfl (ev_build (cs := Mani.cells (⟨([97] : List UInt8), (⟨1073741824, 1073741824, (Arr.zero 0 32)⟩ : Img)⟩ : Mani)) rfl rfl Tryd.zeroValue27 Tryd.runUnderlying27 pl27 (show Instr.fill _ (Mani.cells Mani.zero).toArray _ = some _ from (fill_cons rfl (s := [vs ([97] : List UInt8)]) rfl rfl (Mani.set_Name _ ([97] : List UInt8)) (fill_cons rfl (s := Img.cells (⟨1073741824, 1073741824, (Arr.zero 0 32)⟩ : Img)) rfl (Img.len _) (Mani.set_Image _ (⟨1073741824, 1073741824, (Arr.zero 0 32)⟩ : Img)) fill_nil)))) (g0 rfl) rfl rfl ?_
  refine o_pu rfl (ev_build (cs := Img.cells (⟨1073741825, 1, (Arr.zero 0 32)⟩ : Img)) rfl rfl Tryd.zeroValue25 Tryd.runUnderlying25 pl25 (show Instr.fill _ (Img.cells Img.zero).toArray _ = some _ from (fill_cons rfl (s := [vi 1073741825]) rfl rfl (Img.set_Version _ 1073741825) (fill_cons rfl (s := [vi 1]) rfl rfl (Img.set_Size _ 1) fill_nil)))) (g0 rfl) rfl rfl ?_
  refine o_pu rfl (ev_build (cs := Mani.cells (⟨([97] : List UInt8), (⟨1073741825, 1, (Arr.zero 0 32)⟩ : Img)⟩ : Mani)) rfl rfl Tryd.zeroValue27 Tryd.runUnderlying27 pl27 (show Instr.fill _ (Mani.cells Mani.zero).toArray _ = some _ from (fill_cons rfl (s := [vs ([97] : List UInt8)]) rfl rfl (Mani.set_Name _ ([97] : List UInt8)) (fill_cons rfl (s := Img.cells (⟨1073741825, 1, (Arr.zero 0 32)⟩ : Img)) rfl (Img.len _) (Mani.set_Image _ (⟨1073741825, 1, (Arr.zero 0 32)⟩ : Img)) fill_nil)))) (g0 rfl) rfl rfl ?_
  refine o_pu rfl (ev_build (cs := Img.cells (⟨1, 1073741825, (Arr.zero 0 32)⟩ : Img)) rfl rfl Tryd.zeroValue25 Tryd.runUnderlying25 pl25 (show Instr.fill _ (Img.cells Img.zero).toArray _ = some _ from (fill_cons rfl (s := [vi 1]) rfl rfl (Img.set_Version _ 1) (fill_cons rfl (s := [vi 1073741825]) rfl rfl (Img.set_Size _ 1073741825) fill_nil)))) (g0 rfl) rfl rfl ?_
  refine o_pu rfl (ev_build (cs := Mani.cells (⟨([97] : List UInt8), (⟨1, 1073741825, (Arr.zero 0 32)⟩ : Img)⟩ : Mani)) rfl rfl Tryd.zeroValue27 Tryd.runUnderlying27 pl27 (show Instr.fill _ (Mani.cells Mani.zero).toArray _ = some _ from (fill_cons rfl (s := [vs ([97] : List UInt8)]) rfl rfl (Mani.set_Name _ ([97] : List UInt8)) (fill_cons rfl (s := Img.cells (⟨1, 1073741825, (Arr.zero 0 32)⟩ : Img)) rfl (Img.len _) (Mani.set_Image _ (⟨1, 1073741825, (Arr.zero 0 32)⟩ : Img)) fill_nil)))) (g0 rfl) rfl rfl ?_
  refine o_pu rfl (ev_build (cs := Img.cells (⟨1, 1, (Arr.zero 0 32)⟩ : Img)) rfl rfl Tryd.zeroValue25 Tryd.runUnderlying25 pl25 (show Instr.fill _ (Img.cells Img.zero).toArray _ = some _ from (fill_cons rfl (s := [vi 1]) rfl rfl (Img.set_Version _ 1) (fill_cons rfl (s := [vi 1]) rfl rfl (Img.set_Size _ 1) fill_nil)))) (g0 rfl) rfl rfl ?_
  refine o_pu rfl (ev_build (cs := Mani.cells (⟨[], (⟨1, 1, (Arr.zero 0 32)⟩ : Img)⟩ : Mani)) rfl rfl Tryd.zeroValue27 Tryd.runUnderlying27 pl27 (show Instr.fill _ (Mani.cells Mani.zero).toArray _ = some _ from (fill_cons rfl (s := Img.cells (⟨1, 1, (Arr.zero 0 32)⟩ : Img)) rfl (Img.len _) (Mani.set_Image _ (⟨1, 1, (Arr.zero 0 32)⟩ : Img)) fill_nil))) (g0 rfl) rfl rfl ?_
  refine o_pu rfl (ev_build (cs := Img.cells (⟨1, 1, (Arr.zero 0 32)⟩ : Img)) rfl rfl Tryd.zeroValue25 Tryd.runUnderlying25 pl25 (show Instr.fill _ (Img.cells Img.zero).toArray _ = some _ from (fill_cons rfl (s := [vi 1]) rfl rfl (Img.set_Version _ 1) (fill_cons rfl (s := [vi 1]) rfl rfl (Img.set_Size _ 1) fill_nil)))) (g0 rfl) rfl rfl ?_
  refine o_pu rfl (ev_build (cs := Mani.cells (⟨([65] : List UInt8), (⟨1, 1, (Arr.zero 0 32)⟩ : Img)⟩ : Mani)) rfl rfl Tryd.zeroValue27 Tryd.runUnderlying27 pl27 (show Instr.fill _ (Mani.cells Mani.zero).toArray _ = some _ from (fill_cons rfl (s := [vs ([65] : List UInt8)]) rfl rfl (Mani.set_Name _ ([65] : List UInt8)) (fill_cons rfl (s := Img.cells (⟨1, 1, (Arr.zero 0 32)⟩ : Img)) rfl (Img.len _) (Mani.set_Image _ (⟨1, 1, (Arr.zero 0 32)⟩ : Img)) fill_nil)))) (g0 rfl) rfl rfl ?_
  refine o_pu rfl (ev_build (cs := Img.cells (⟨1, 1, (Arr.zero 0 32)⟩ : Img)) rfl rfl Tryd.zeroValue25 Tryd.runUnderlying25 pl25 (show Instr.fill _ (Img.cells Img.zero).toArray _ = some _ from (fill_cons rfl (s := [vi 1]) rfl rfl (Img.set_Version _ 1) (fill_cons rfl (s := [vi 1]) rfl rfl (Img.set_Size _ 1) fill_nil)))) (g0 rfl) rfl rfl ?_
  refine o_pu rfl (ev_build (cs := Mani.cells (⟨([206, 177, 206, 178, 206, 179, 206, 180, 206, 181, 206, 182, 206, 183, 206, 184] : List UInt8), (⟨1, 1, (Arr.zero 0 32)⟩ : Img)⟩ : Mani)) rfl rfl Tryd.zeroValue27 Tryd.runUnderlying27 pl27 (show Instr.fill _ (Mani.cells Mani.zero).toArray _ = some _ from (fill_cons rfl (s := [vs ([206, 177, 206, 178, 206, 179, 206, 180, 206, 181, 206, 182, 206, 183, 206, 184] : List UInt8)]) rfl rfl (Mani.set_Name _ ([206, 177, 206, 178, 206, 179, 206, 180, 206, 181, 206, 182, 206, 183, 206, 184] : List UInt8)) (fill_cons rfl (s := Img.cells (⟨1, 1, (Arr.zero 0 32)⟩ : Img)) rfl (Img.len _) (Mani.set_Image _ (⟨1, 1, (Arr.zero 0 32)⟩ : Img)) fill_nil)))) (g0 rfl) rfl rfl ?_
  refine o_pu rfl (ev_build (cs := Img.cells (⟨1, 1, (Arr.zero 0 32)⟩ : Img)) rfl rfl Tryd.zeroValue25 Tryd.runUnderlying25 pl25 (show Instr.fill _ (Img.cells Img.zero).toArray _ = some _ from (fill_cons rfl (s := [vi 1]) rfl rfl (Img.set_Version _ 1) (fill_cons rfl (s := [vi 1]) rfl rfl (Img.set_Size _ 1) fill_nil)))) (g0 rfl) rfl rfl ?_
  refine o_pu rfl (ev_build (cs := Mani.cells (⟨([97, 98, 99, 100, 101, 102, 103, 104, 105] : List UInt8), (⟨1, 1, (Arr.zero 0 32)⟩ : Img)⟩ : Mani)) rfl rfl Tryd.zeroValue27 Tryd.runUnderlying27 pl27 (show Instr.fill _ (Mani.cells Mani.zero).toArray _ = some _ from (fill_cons rfl (s := [vs ([97, 98, 99, 100, 101, 102, 103, 104, 105] : List UInt8)]) rfl rfl (Mani.set_Name _ ([97, 98, 99, 100, 101, 102, 103, 104, 105] : List UInt8)) (fill_cons rfl (s := Img.cells (⟨1, 1, (Arr.zero 0 32)⟩ : Img)) rfl (Img.len _) (Mani.set_Image _ (⟨1, 1, (Arr.zero 0 32)⟩ : Img)) fill_nil)))) (g0 rfl) rfl rfl ?_
  refine oc (k_buildSlice (f := Mani.cells) ([(⟨([97] : List UInt8), (⟨1, 1, (Arr.zero 0 32)⟩ : Img)⟩ : Mani), (⟨([97] : List UInt8), (⟨0, 1, (Arr.zero 0 32)⟩ : Img)⟩ : Mani), (⟨([97] : List UInt8), (⟨1, 0, (Arr.zero 0 32)⟩ : Img)⟩ : Mani), (⟨([97] : List UInt8), (⟨1073741824, 1073741824, (Arr.zero 0 32)⟩ : Img)⟩ : Mani), (⟨([97] : List UInt8), (⟨1073741825, 1, (Arr.zero 0 32)⟩ : Img)⟩ : Mani), (⟨([97] : List UInt8), (⟨1, 1073741825, (Arr.zero 0 32)⟩ : Img)⟩ : Mani), (⟨[], (⟨1, 1, (Arr.zero 0 32)⟩ : Img)⟩ : Mani), (⟨([65] : List UInt8), (⟨1, 1, (Arr.zero 0 32)⟩ : Img)⟩ : Mani), (⟨([206, 177, 206, 178, 206, 179, 206, 180, 206, 181, 206, 182, 206, 183, 206, 184] : List UInt8), (⟨1, 1, (Arr.zero 0 32)⟩ : Img)⟩ : Mani), (⟨([97, 98, 99, 100, 101, 102, 103, 104, 105] : List UInt8), (⟨1, 1, (Arr.zero 0 32)⟩ : Img)⟩ : Mani)] : List Mani) rfl rfl rfl rfl Tryd.runUnderlying36 Tryd.sizeOf27 Tryd.zeroValue27 rfl rfl (fill_all rfl rfl (by simp) rfl rfl) (g0 rfl) rfl rfl ?_)
  intro b3
  refine o_pu rfl (ev_assign rfl rfl) (g0 rfl) rfl rfl ?_
  refine o_nil ?_
  refine q_then ?_
  refine s_seq ?_
  refine s_reg [0, 1] rfl ?_
  refine oc (k_buildSlice (f := Eb) ([true, false, false, true, false, false, false, false, true, false] : List Bool) rfl rfl rfl rfl Tryd.runUnderlying37 Tryd.sizeOf4 Tryd.zeroValue4 rfl rfl (fill_all rfl rfl (by simp) rfl rfl) (g0 rfl) rfl rfl ?_)
  intro b4
  refine o_pu rfl (ev_assign rfl rfl) (g0 rfl) rfl rfl ?_
  refine o_nil ?_
  refine q_then ?_
  refine s_seq ?_
  refine s_seq ?_
  refine s_reg [0, 1, 2, 3, 4, 5, 6, 7, 8, 9, 10, 11] rfl ?_
  refine o_pu rfl (ev_move rfl rfl) (g0 rfl) rfl rfl ?_
  refine o_pu rfl (ev_not rfl rfl) (g0 rfl) rfl rfl ?_
  refine o_pu rfl (ev_move rfl rfl) (g0 rfl) rfl rfl ?_
  refine k_name 34 rfl ?_
  intro b5 hb6
  have H := bnd_eq H hb6
  refine o_jb 37 [6, 7, 8, 9, 10, 11] [0, 2, 3, 4, 5, 9, 10, 11, 12, 13, 14, 15, 16, 17, 18, 19, 20, 21, 22, 23, 24, 25, 26, 27, 28, 29, 30, 31, 32, 33, 34] H rfl ?_ ?_
  · intro x8 H
    refine o_pu rfl (ev_move rfl rfl) (g0 rfl) rfl rfl ?_
    refine k_name 38 rfl ?_
    intro b9 hb10
    have H := bnd_eq H hb10
    refine o_jb 43 [] [0, 2, 3, 4, 5, 9, 10, 11, 12, 13, 14, 15, 16, 17, 18, 19, 20, 21, 22, 23, 24, 25, 26, 27, 28, 29, 30, 31, 32, 33, 34, 37, 38] H rfl ?_ ?_
    · intro x12 H
      refine o_nil ?_
      refine q_then ?_
      refine s_cond rfl ?_ ?_
      · intro hb13
        have H := cnd_t H hb13
        refine s_seq ?_
        refine s_reg [0, 1] rfl ?_
        refine o_pu rfl (ev_move rfl rfl) (g0 rfl) rfl rfl ?_
        refine o_pu rfl (ev_assign rfl rfl) (g0 rfl) rfl rfl ?_
        refine o_nil ?_
        refine q_then ?_
        refine s_ret ?_
        refine q_then_r ?_
        cases H
        exact q_end (rs_1 Tryd.results4 (rv_tmp rfl)) ⟨rfl, rfl, rfl⟩ [] rfl 2 rfl [] rfl 0 rfl
      · intro hb13
        have H := cnd_f H hb13
        refine s_skip ?_
        refine q_then ?_
        refine s_seq ?_
        refine s_reg [0, 1, 2, 3, 4, 5, 6, 7, 8, 9, 10, 11, 12, 13, 14, 15] rfl ?_
        refine o_lit ([107] : List UInt8) rfl rfl rfl rfl Tryd.underlying22 Tryd.underlying5 Tryd.sizeOf5 Tryd.zeroValue5 rfl rfl (fill_all rfl rfl (by simp) rfl rfl) (g0 rfl) rfl rfl rfl rfl (fun _ => (g0 rfl)) rfl rfl ?_
        intro b14
        refine o_pu rfl (ev_move rfl rfl) (g0 rfl) rfl rfl ?_
        refine o_pu rfl (ev_move rfl rfl) (g0 rfl) rfl rfl ?_
        obtain ⟨hk17, H⟩ := chk_some H
        refine oc (k_idx Mani.zero 2 rfl rfl rfl rfl rfl Mani.len rfl Tryd.runUnderlying36 Tryd.sizeOf27 hk17 (g0 rfl) rfl rfl ?_)
        intro b15 q16
        refine o_ld (hD 0 rfl) rfl (ev_ldN (j := 0) rfl rfl Tryd.isAgg27 (sz (Mani.len _) Tryd.sizeOf27) (sub_all _) rfl) (g0 rfl) rfl rfl ?_
        obtain ⟨r18, Hc19, H⟩ := bind_some' H
        refine oc (k_call (c_manifest_Bytes ([107] : List UInt8) (some ⟨b14, 0, none⟩) 1 (at' Mani.zero ([(⟨([97] : List UInt8), (⟨1, 1, (Arr.zero 0 32)⟩ : Img)⟩ : Mani), (⟨([97] : List UInt8), (⟨0, 1, (Arr.zero 0 32)⟩ : Img)⟩ : Mani), (⟨([97] : List UInt8), (⟨1, 0, (Arr.zero 0 32)⟩ : Img)⟩ : Mani), (⟨([97] : List UInt8), (⟨1073741824, 1073741824, (Arr.zero 0 32)⟩ : Img)⟩ : Mani), (⟨([97] : List UInt8), (⟨1073741825, 1, (Arr.zero 0 32)⟩ : Img)⟩ : Mani), (⟨([97] : List UInt8), (⟨1, 1073741825, (Arr.zero 0 32)⟩ : Img)⟩ : Mani), (⟨[], (⟨1, 1, (Arr.zero 0 32)⟩ : Img)⟩ : Mani), (⟨([65] : List UInt8), (⟨1, 1, (Arr.zero 0 32)⟩ : Img)⟩ : Mani), (⟨([206, 177, 206, 178, 206, 179, 206, 180, 206, 181, 206, 182, 206, 183, 206, 184] : List UInt8), (⟨1, 1, (Arr.zero 0 32)⟩ : Img)⟩ : Mani), (⟨([97, 98, 99, 100, 101, 102, 103, 104, 105] : List UInt8), (⟨1, 1, (Arr.zero 0 32)⟩ : Img)⟩ : Mani)] : List Mani) a0_which) r18 Hc19) Tryd.call10 rfl rfl rfl [1] [] rfl rfl (g0 rfl) rfl rfl ?_)
        rintro _ _ _ ⟨A20, c21, rfl, rfl, rfl⟩
        dsimp only [List.cons_append, List.nil_append]
        obtain ⟨r22, Hc23, H⟩ := bind_some' H
        refine oc (k_call (c_manifest_Read r18 A20 c21 r22 Hc23) Tryd.call11 rfl rfl rfl [0] [] rfl rfl (g0 rfl) rfl rfl ?_)
        rintro _ _ _ ⟨A24, c25, rfl, rfl, rfl⟩
        dsimp only [List.cons_append, List.nil_append]
        refine o_pu rfl (ev_move rfl rfl) (g0 rfl) rfl rfl ?_
        refine o_pu rfl (ev_extract rfl rfl rfl) (g0 rfl) rfl rfl ?_
        refine o_pu rfl (ev_extract rfl rfl rfl) (g0 rfl) rfl rfl ?_
        refine o_pu rfl (ev_extract rfl rfl rfl) (g0 rfl) rfl rfl ?_
        refine oc (k_alloc rfl rfl Tryd.zeroValue27 (cs := Mani.cells Mani.zero) rfl (g0 rfl) rfl rfl ?_)
        intro b26
        refine oc (k_st (j := 0) rfl rfl rfl rfl (vs := Mani.cells r22.1) rfl (sz (Mani.len _) Tryd.sizeOf27) (Mani.sc _) 0 rfl (spl_all ((Mani.len _).trans (Mani.len _).symm)) rfl (g0 rfl) rfl ?_)
        refine o_pu rfl (ev_assign rfl rfl) (g0 rfl) rfl rfl ?_
        refine o_pu rfl (ev_assign rfl rfl) (g0 rfl) rfl rfl ?_
        refine o_nil ?_
        refine q_then ?_
        refine s_seq ?_
        refine s_seq ?_
        refine s_reg [0, 1, 2, 3] rfl ?_
        refine o_pu rfl (ev_move rfl rfl) (g0 rfl) rfl rfl ?_
        refine o_pu rfl (ev_move rfl rfl) (g0 rfl) rfl rfl ?_
        obtain ⟨hk29, H⟩ := chk_some H
        refine oc (k_idx false 4 rfl rfl rfl rfl rfl Eb_len rfl Tryd.runUnderlying37 Tryd.sizeOf4 hk29 (g0 rfl) rfl rfl ?_)
        intro b27 q28
        refine o_ld (hD 0 rfl) rfl (ev_ld1 (j := 0) rfl rfl Tryd.isAgg4 (sub_nth (j := 0) rfl) rfl) (g0 rfl) rfl rfl ?_
        refine o_nil ?_
        refine q_then ?_
        refine s_cond rfl ?_ ?_
        · intro hb30
          have H := cnd_t H hb30
          refine s_seq ?_
          refine q_join (fun (x32 : Bool) (y33 : Unit) => ⟨Ro b27 q28 [vb (at' false ([true, false, false, true, false, false, false, false, true, false] : List Bool) a0_which)] :: Sl E8 A24 c25 r22.2.1 :: Sl E8 A20 c21 r18 :: Ro b15 q16 (Mani.cells (at' Mani.zero ([(⟨([97] : List UInt8), (⟨1, 1, (Arr.zero 0 32)⟩ : Img)⟩ : Mani), (⟨([97] : List UInt8), (⟨0, 1, (Arr.zero 0 32)⟩ : Img)⟩ : Mani), (⟨([97] : List UInt8), (⟨1, 0, (Arr.zero 0 32)⟩ : Img)⟩ : Mani), (⟨([97] : List UInt8), (⟨1073741824, 1073741824, (Arr.zero 0 32)⟩ : Img)⟩ : Mani), (⟨([97] : List UInt8), (⟨1073741825, 1, (Arr.zero 0 32)⟩ : Img)⟩ : Mani), (⟨([97] : List UInt8), (⟨1, 1073741825, (Arr.zero 0 32)⟩ : Img)⟩ : Mani), (⟨[], (⟨1, 1, (Arr.zero 0 32)⟩ : Img)⟩ : Mani), (⟨([65] : List UInt8), (⟨1, 1, (Arr.zero 0 32)⟩ : Img)⟩ : Mani), (⟨([206, 177, 206, 178, 206, 179, 206, 180, 206, 181, 206, 182, 206, 183, 206, 184] : List UInt8), (⟨1, 1, (Arr.zero 0 32)⟩ : Img)⟩ : Mani), (⟨([97, 98, 99, 100, 101, 102, 103, 104, 105] : List UInt8), (⟨1, 1, (Arr.zero 0 32)⟩ : Img)⟩ : Mani)] : List Mani) a0_which)) :: Sl E8 (some ⟨b14, 0, none⟩) 1 ([107] : List UInt8) :: Sl Eb (some ⟨b4, 0, none⟩) 10 ([true, false, false, true, false, false, false, false, true, false] : List Bool) :: Sl Mani.cells (some ⟨b3, 0, none⟩) 10 ([(⟨([97] : List UInt8), (⟨1, 1, (Arr.zero 0 32)⟩ : Img)⟩ : Mani), (⟨([97] : List UInt8), (⟨0, 1, (Arr.zero 0 32)⟩ : Img)⟩ : Mani), (⟨([97] : List UInt8), (⟨1, 0, (Arr.zero 0 32)⟩ : Img)⟩ : Mani), (⟨([97] : List UInt8), (⟨1073741824, 1073741824, (Arr.zero 0 32)⟩ : Img)⟩ : Mani), (⟨([97] : List UInt8), (⟨1073741825, 1, (Arr.zero 0 32)⟩ : Img)⟩ : Mani), (⟨([97] : List UInt8), (⟨1, 1073741825, (Arr.zero 0 32)⟩ : Img)⟩ : Mani), (⟨[], (⟨1, 1, (Arr.zero 0 32)⟩ : Img)⟩ : Mani), (⟨([65] : List UInt8), (⟨1, 1, (Arr.zero 0 32)⟩ : Img)⟩ : Mani), (⟨([206, 177, 206, 178, 206, 179, 206, 180, 206, 181, 206, 182, 206, 183, 206, 184] : List UInt8), (⟨1, 1, (Arr.zero 0 32)⟩ : Img)⟩ : Mani), (⟨([97, 98, 99, 100, 101, 102, 103, 104, 105] : List UInt8), (⟨1, 1, (Arr.zero 0 32)⟩ : Img)⟩ : Mani)] : List Mani) :: D0, At b26 0 (Mani.cells r22.1) :: Spare A24 r22.2.1.length c25 1 :: Spare A20 r18.length c21 1 :: G0, [(2, (vb x32))]⟩) H ?_ ?_
          · intro x32 y33 H
            dsimp only
            refine q_then ?_
            refine s_ret ?_
            refine q_then_r ?_
            cases H
            exact q_end (rs_1 Tryd.results4 (rv_tmp rfl)) ⟨rfl, rfl, rfl⟩ [] rfl 7 rfl [] rfl 3 rfl
          · intro J31 H
            refine s_draw mixed [(4, [], Has b26 0 (Mani.cells r22.1))] ?_
            refine a_pu 0 rfl (ev_move rfl rfl) (by rfl) (by kernel_rfl) (by kernel_rfl) (by kernel_rfl) (fun _ _ _ h => h) (g0 rfl) rfl rfl ?_
            obtain ⟨r34, Hc35, H⟩ := bind_some' H
            refine ac 1 (by kernel_rfl) (sl_cons (hG 0 rfl) sl_nil) (k_call (c_law12_num r22.2.2 r34 Hc35) Tryd.call12 rfl rfl rfl [] [] rfl rfl (g0 rfl) rfl rfl ?_)
            rintro _ _ _ ⟨rfl, rfl, rfl⟩
            dsimp only [List.cons_append, List.nil_append]
            refine a_pu 2 rfl (ev_bin rfl rfl rfl rfl (eql_i _ 0)) (by rfl) (by kernel_rfl) (by kernel_rfl) (by kernel_rfl) (fun _ _ _ h => h) (g0 rfl) rfl rfl ?_
            refine a_pu 3 rfl (ev_move rfl rfl) (by rfl) (by kernel_rfl) (by kernel_rfl) (by kernel_rfl) (fun _ _ _ h => h) (g0 rfl) rfl rfl ?_
            refine k_name 64 rfl ?_
            intro b36 hb37
            have H := bnd_eq H hb37
            cases b36 with
            | true =>
              rw [cond_true] at H
              refine a_ld 4 0 rfl rfl (ev_ldN (j := 0) rfl rfl Tryd.isAgg27 (sz (Mani.len _) Tryd.sizeOf27) (sub_all _) rfl) (by kernel_rfl) (by rfl) (by kernel_rfl) (by kernel_rfl) (by kernel_rfl) (by kernel_rfl) (fun _ _ _ h => h) (g1 rfl rfl rfl rfl) rfl rfl ?_
              refine a_pu 5 rfl (ev_move rfl rfl) (by rfl) (by kernel_rfl) (by kernel_rfl) (by kernel_rfl) (fun _ _ _ h => h) (g1 rfl rfl rfl rfl) rfl rfl ?_
              refine a_pu 6 rfl (ev_move rfl rfl) (by rfl) (by kernel_rfl) (by kernel_rfl) (by kernel_rfl) (fun _ _ _ h => h) (g1 rfl rfl rfl rfl) rfl rfl ?_
              obtain ⟨hk40, H⟩ := chk_some H
              refine ac 7 (by kernel_rfl) (sl_cons (hG 0 rfl) sl_nil) (k_idx Mani.zero 6 rfl rfl rfl rfl rfl Mani.len rfl Tryd.runUnderlying36 Tryd.sizeOf27 hk40 (g1 rfl rfl rfl rfl) rfl rfl ?_)
              intro b38 q39
              refine ac 8 (by kernel_rfl) (sl_cons (hG 0 rfl) sl_nil) (k_ld (hD 0 rfl) rfl (ev_ldN (j := 0) rfl rfl Tryd.isAgg27 (sz (Mani.len _) Tryd.sizeOf27) (sub_all _) rfl) (g1 rfl rfl rfl rfl) rfl rfl ?_)
              refine a_pu 9 rfl (ev_eqA (f := Mani.cells) (X := r22.1) (Y := (at' Mani.zero ([(⟨([97] : List UInt8), (⟨1, 1, (Arr.zero 0 32)⟩ : Img)⟩ : Mani), (⟨([97] : List UInt8), (⟨0, 1, (Arr.zero 0 32)⟩ : Img)⟩ : Mani), (⟨([97] : List UInt8), (⟨1, 0, (Arr.zero 0 32)⟩ : Img)⟩ : Mani), (⟨([97] : List UInt8), (⟨1073741824, 1073741824, (Arr.zero 0 32)⟩ : Img)⟩ : Mani), (⟨([97] : List UInt8), (⟨1073741825, 1, (Arr.zero 0 32)⟩ : Img)⟩ : Mani), (⟨([97] : List UInt8), (⟨1, 1073741825, (Arr.zero 0 32)⟩ : Img)⟩ : Mani), (⟨[], (⟨1, 1, (Arr.zero 0 32)⟩ : Img)⟩ : Mani), (⟨([65] : List UInt8), (⟨1, 1, (Arr.zero 0 32)⟩ : Img)⟩ : Mani), (⟨([206, 177, 206, 178, 206, 179, 206, 180, 206, 181, 206, 182, 206, 183, 206, 184] : List UInt8), (⟨1, 1, (Arr.zero 0 32)⟩ : Img)⟩ : Mani), (⟨([97, 98, 99, 100, 101, 102, 103, 104, 105] : List UInt8), (⟨1, 1, (Arr.zero 0 32)⟩ : Img)⟩ : Mani)] : List Mani) a0_which)) rfl rfl rfl eqT27 rfl Tryd.isAgg27 Tryd.sizeOf27 Mani.len eqG27) (by rfl) (by kernel_rfl) (by kernel_rfl) (by kernel_rfl) (fun _ _ _ h => h) (g1 rfl rfl rfl rfl) rfl rfl ?_
              refine a_pu 10 rfl (ev_pick_t rfl rfl rfl) (by rfl) (by kernel_rfl) (by kernel_rfl) (by kernel_rfl) (fun _ _ _ h => h) (g0 rfl) rfl rfl ?_
              refine a_pu 11 rfl (ev_assign rfl rfl) (by rfl) (by kernel_rfl) (by kernel_rfl) (by kernel_rfl) (fun _ _ _ h => h) (g0 rfl) rfl rfl ?_
              refine a_done (by kernel_rfl) (sl_cons (hG 0 rfl) sl_nil) ?_
              exact k_wk (J31 (decide (r22.1 = (at' Mani.zero ([(⟨([97] : List UInt8), (⟨1, 1, (Arr.zero 0 32)⟩ : Img)⟩ : Mani), (⟨([97] : List UInt8), (⟨0, 1, (Arr.zero 0 32)⟩ : Img)⟩ : Mani), (⟨([97] : List UInt8), (⟨1, 0, (Arr.zero 0 32)⟩ : Img)⟩ : Mani), (⟨([97] : List UInt8), (⟨1073741824, 1073741824, (Arr.zero 0 32)⟩ : Img)⟩ : Mani), (⟨([97] : List UInt8), (⟨1073741825, 1, (Arr.zero 0 32)⟩ : Img)⟩ : Mani), (⟨([97] : List UInt8), (⟨1, 1073741825, (Arr.zero 0 32)⟩ : Img)⟩ : Mani), (⟨[], (⟨1, 1, (Arr.zero 0 32)⟩ : Img)⟩ : Mani), (⟨([65] : List UInt8), (⟨1, 1, (Arr.zero 0 32)⟩ : Img)⟩ : Mani), (⟨([206, 177, 206, 178, 206, 179, 206, 180, 206, 181, 206, 182, 206, 183, 206, 184] : List UInt8), (⟨1, 1, (Arr.zero 0 32)⟩ : Img)⟩ : Mani), (⟨([97, 98, 99, 100, 101, 102, 103, 104, 105] : List UInt8), (⟨1, 1, (Arr.zero 0 32)⟩ : Img)⟩ : Mani)] : List Mani) a0_which))) () H) [2] [1, 2, 3, 4, 5, 6, 7] 8 [0, 0, 0] 0 rfl rfl rfl
            | false =>
              rw [cond_false] at H
              refine a_not 4 rfl (by rfl) (by kernel_rfl) (by kernel_rfl) (by kernel_rfl) (fun _ _ _ h => h) rfl rfl rfl rfl rfl rfl rfl ?_
              refine a_not 5 rfl (by rfl) (by kernel_rfl) (by kernel_rfl) (by kernel_rfl) (fun _ _ _ h => h) rfl rfl rfl rfl rfl rfl rfl ?_
              refine a_not 6 rfl (by rfl) (by kernel_rfl) (by kernel_rfl) (by kernel_rfl) (fun _ _ _ h => h) rfl rfl rfl rfl rfl rfl rfl ?_
              refine a_not 7 rfl (by rfl) (by kernel_rfl) (by kernel_rfl) (by kernel_rfl) (fun _ _ _ h => h) rfl rfl rfl rfl rfl rfl rfl ?_
              refine a_not 8 rfl (by rfl) (by kernel_rfl) (by kernel_rfl) (by kernel_rfl) (fun _ _ _ h => h) rfl rfl rfl rfl rfl rfl rfl ?_
              refine a_not 9 rfl (by rfl) (by kernel_rfl) (by kernel_rfl) (by kernel_rfl) (fun _ _ _ h => h) rfl rfl rfl rfl rfl rfl rfl ?_
              refine a_pu 10 rfl (ev_pick_f rfl rfl rfl) (by rfl) (by kernel_rfl) (by kernel_rfl) (by kernel_rfl) (fun _ _ _ h => h) (g0 rfl) rfl rfl ?_
              refine a_pu 11 rfl (ev_assign rfl rfl) (by rfl) (by kernel_rfl) (by kernel_rfl) (by kernel_rfl) (fun _ _ _ h => h) (g0 rfl) rfl rfl ?_
              refine a_done (by kernel_rfl) (sl_cons (hG 0 rfl) sl_nil) ?_
              exact k_wk (J31 false () H) [2] [0, 1, 2, 3, 4, 5, 6] 7 [0, 0, 0] 0 rfl rfl rfl
        · intro hb30
          have H := cnd_f H hb30
          refine s_skip ?_
          refine q_then ?_
          refine s_seq ?_
          refine s_reg [0, 1, 2, 3, 4, 5, 6, 7, 8] rfl ?_
          refine o_pu rfl (ev_move rfl rfl) (g0 rfl) rfl rfl ?_
          obtain ⟨r41, Hc42, H⟩ := bind_some' H
          refine oc (k_call (c_law12_num r22.2.2 r41 Hc42) Tryd.call12 rfl rfl rfl [] [] rfl rfl (g0 rfl) rfl rfl ?_)
          rintro _ _ _ ⟨rfl, rfl, rfl⟩
          dsimp only [List.cons_append, List.nil_append]
          refine o_pu rfl (ev_bin rfl rfl rfl rfl (eql_i _ 6)) (g0 rfl) rfl rfl ?_
          refine o_pu rfl (ev_move rfl rfl) (g0 rfl) rfl rfl ?_
          refine k_name 75 rfl ?_
          intro b43 hb44
          have H := bnd_eq H hb44
          refine o_jb 79 [8] [0, 2, 3, 4, 5, 6, 7, 8, 9, 10, 11, 12, 13, 14, 15, 16, 17, 18, 19, 20, 21, 22, 23, 24, 25, 26, 27, 28, 29, 30, 31, 32, 33, 34, 37, 38, 43, 45, 46, 47, 48, 49, 50, 51, 52, 53, 54, 55, 56, 57, 58, 59, 60, 72, 73, 74, 75] H rfl ?_ ?_
          · intro x46 H
            refine o_pu rfl (ev_assign rfl rfl) (g0 rfl) rfl rfl ?_
            refine o_nil ?_
            refine q_then ?_
            refine s_ret ?_
            cases H
            exact q_end (rs_1 Tryd.results4 (rv_tmp rfl)) ⟨rfl, rfl, rfl⟩ [] rfl 7 rfl [] rfl 3 rfl
          · intro J45 H
            cases b43 with
            | true =>
              rw [cond_true] at H
              refine o_ld (hG 0 rfl) rfl (ev_ldN (j := 0) rfl rfl Tryd.isAgg27 (sz (Mani.len _) Tryd.sizeOf27) (sub_all _) rfl) (g1 rfl rfl rfl rfl) rfl rfl ?_
              refine o_pu rfl (ev_build (cs := Mani.cells Mani.zero) rfl rfl Tryd.zeroValue27 Tryd.runUnderlying27 pl27 (show Instr.fill _ (Mani.cells Mani.zero).toArray _ = some _ from fill_nil)) (g1 rfl rfl rfl rfl) rfl rfl ?_
              refine o_pu rfl (ev_eqA (f := Mani.cells) (X := r22.1) (Y := Mani.zero) rfl rfl rfl eqT27 rfl Tryd.isAgg27 Tryd.sizeOf27 Mani.len eqG27) (g1 rfl rfl rfl rfl) rfl rfl ?_
              refine o_pu rfl (ev_pick_t rfl rfl rfl) (g0 rfl) rfl rfl ?_
              exact k_wk (J45 (decide (r22.1 = Mani.zero)) H) [79, 0, 2, 3, 4, 5, 6, 7, 8, 9, 10, 11, 12, 13, 14, 15, 16, 17, 18, 19, 20, 21, 22, 23, 24, 25, 26, 27, 28, 29, 30, 31, 32, 33, 34, 37, 38, 43, 45, 46, 47, 48, 49, 50, 51, 52, 53, 54, 55, 56, 57, 58, 59, 60, 72, 73, 74, 75] [0, 1, 2, 3, 4, 5, 6] 7 [0, 0, 0] 0 rfl rfl rfl
            | false =>
              rw [cond_false] at H
              refine o_gnot rfl rfl rfl rfl rfl rfl rfl rfl ?_
              refine o_gnot rfl rfl rfl rfl rfl rfl rfl rfl ?_
              refine o_gnot rfl rfl rfl rfl rfl rfl rfl rfl ?_
              refine o_pu rfl (ev_pick_f rfl rfl rfl) (g0 rfl) rfl rfl ?_
              exact k_wk (J45 false H) [79, 0, 2, 3, 4, 5, 6, 7, 8, 9, 10, 11, 12, 13, 14, 15, 16, 17, 18, 19, 20, 21, 22, 23, 24, 25, 26, 27, 28, 29, 30, 31, 32, 33, 34, 37, 38, 43, 45, 46, 47, 48, 49, 50, 51, 52, 53, 54, 55, 56, 57, 58, 59, 60, 72, 73, 74, 75] [0, 1, 2, 3, 4, 5, 6] 7 [0, 0, 0] 0 rfl rfl rfl
    · intro J11 H
      cases b9 with
      | true =>
        rw [cond_true] at H
        refine o_gnot rfl rfl rfl rfl rfl rfl rfl rfl ?_
        refine o_gnot rfl rfl rfl rfl rfl rfl rfl rfl ?_
        refine o_gnot rfl rfl rfl rfl rfl rfl rfl rfl ?_
        refine o_gnot rfl rfl rfl rfl rfl rfl rfl rfl ?_
        refine o_pu rfl (ev_pick_t rfl rfl rfl) (g0 rfl) rfl rfl ?_
        exact k_wk (J11 true H) [43, 0, 2, 3, 4, 5, 9, 10, 11, 12, 13, 14, 15, 16, 17, 18, 19, 20, 21, 22, 23, 24, 25, 26, 27, 28, 29, 30, 31, 32, 33, 34, 37, 38] [0, 1] 2 [] 0 rfl rfl rfl
      | false =>
        rw [cond_false] at H
        refine o_pu rfl (ev_move rfl rfl) (g1 rfl rfl rfl rfl) rfl rfl ?_
        refine o_pu rfl (ev_move rfl rfl) (g1 rfl rfl rfl rfl) rfl rfl ?_
        refine o_pu rfl (ev_len_slice rfl rfl Tryd.runUnderlying36) (g1 rfl rfl rfl rfl) rfl rfl ?_
        refine o_pu rfl (ev_bin rfl rfl rfl rfl (geq_i _ _)) (g1 rfl rfl rfl rfl) rfl rfl ?_
        refine o_pu rfl (ev_pick_f rfl rfl rfl) (g0 rfl) rfl rfl ?_
        exact k_wk (J11 (decide (a0_which ≥ (([(⟨([97] : List UInt8), (⟨1, 1, (Arr.zero 0 32)⟩ : Img)⟩ : Mani), (⟨([97] : List UInt8), (⟨0, 1, (Arr.zero 0 32)⟩ : Img)⟩ : Mani), (⟨([97] : List UInt8), (⟨1, 0, (Arr.zero 0 32)⟩ : Img)⟩ : Mani), (⟨([97] : List UInt8), (⟨1073741824, 1073741824, (Arr.zero 0 32)⟩ : Img)⟩ : Mani), (⟨([97] : List UInt8), (⟨1073741825, 1, (Arr.zero 0 32)⟩ : Img)⟩ : Mani), (⟨([97] : List UInt8), (⟨1, 1073741825, (Arr.zero 0 32)⟩ : Img)⟩ : Mani), (⟨[], (⟨1, 1, (Arr.zero 0 32)⟩ : Img)⟩ : Mani), (⟨([65] : List UInt8), (⟨1, 1, (Arr.zero 0 32)⟩ : Img)⟩ : Mani), (⟨([206, 177, 206, 178, 206, 179, 206, 180, 206, 181, 206, 182, 206, 183, 206, 184] : List UInt8), (⟨1, 1, (Arr.zero 0 32)⟩ : Img)⟩ : Mani), (⟨([97, 98, 99, 100, 101, 102, 103, 104, 105] : List UInt8), (⟨1, 1, (Arr.zero 0 32)⟩ : Img)⟩ : Mani)] : List Mani).length : Int))) H) [43, 0, 2, 3, 4, 5, 9, 10, 11, 12, 13, 14, 15, 16, 17, 18, 19, 20, 21, 22, 23, 24, 25, 26, 27, 28, 29, 30, 31, 32, 33, 34, 37, 38] [0, 1] 2 [] 0 rfl rfl rfl
  · intro J7 H
    cases b5 with
    | true =>
      rw [cond_true] at H
      refine o_gnot rfl rfl rfl rfl rfl rfl rfl rfl ?_
      refine o_gnot rfl rfl rfl rfl rfl rfl rfl rfl ?_
      refine o_pu rfl (ev_pick_t rfl rfl rfl) (g0 rfl) rfl rfl ?_
      exact k_wk (J7 true H) [37, 0, 2, 3, 4, 5, 9, 10, 11, 12, 13, 14, 15, 16, 17, 18, 19, 20, 21, 22, 23, 24, 25, 26, 27, 28, 29, 30, 31, 32, 33, 34] [0, 1] 2 [] 0 rfl rfl rfl
    | false =>
      rw [cond_false] at H
      refine o_pu rfl (ev_move rfl rfl) (g1 rfl rfl rfl rfl) rfl rfl ?_
      refine o_pu rfl (ev_bin rfl rfl rfl rfl (lss_i _ 0)) (g1 rfl rfl rfl rfl) rfl rfl ?_
      refine o_pu rfl (ev_pick_f rfl rfl rfl) (g0 rfl) rfl rfl ?_
      exact k_wk (J7 (decide (a0_which < 0)) H) [37, 0, 2, 3, 4, 5, 9, 10, 11, 12, 13, 14, 15, 16, 17, 18, 19, 20, 21, 22, 23, 24, 25, 26, 27, 28, 29, 30, 31, 32, 33, 34] [0, 1] 2 [] 0 rfl rfl rfl

end Go.Proofs.YtfllkhijdijleaaDoor.Wl
