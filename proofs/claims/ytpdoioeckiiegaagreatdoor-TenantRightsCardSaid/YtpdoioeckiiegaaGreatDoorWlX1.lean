import Derived.Test.YtpdoioeckiiegaaGreatDoorWlW
import Derived.Test.YtpdoioeckiiegaaGreatDoorWlX0
set_option linter.unusedSimpArgs false
set_option linter.unusedVariables false
set_option maxRecDepth 10000
namespace Go.Proofs.YtpdoioeckiiegaaGreatDoor.Wl
open Go.RowKit Go.Proofs
def sha_long (a0_n : UInt64) : Option (List UInt8) :=
(turn_Bytes ((shr64 (a0_n : UInt64) (32 : UInt64).toNat).toUInt32)).bind fun r1 =>
(turn_Bytes a0_n.toUInt32).bind fun r5 =>
(slices_Concat ([r1, r5] : List (List UInt8))).bind fun r10 =>
some r10

theorem c_sha_long (a0_n : UInt64) (r : (List UInt8)) (H : sha_long a0_n = some r) : Fn Tryz.prog 153 [(v64 a0_n)] [] [] (fun v D' G' => ∃ (A14 : Option Addr) (c15 : Nat), v = (.slice A14 r.length c15) ∧ D' = [Sl E8 A14 c15 r] ∧ G' = [Spare A14 r.length c15 1]) := by
  unfold sha_long at H
  refine fn_of Tryz.func153 rfl Tryz.ntmps153 rfl ?_
  intro w0 D0 G0
  dsimp only [app, initEnv, Nat.zero_add, Nat.reduceAdd]
  refine s_seq ?_
  refine s_reg [0] rfl ?_
  refine o_run ft [0] rfl rfl ?_
  refine o_nil ?_
  refine q_then ?_
  refine s_seq ?_
  refine s_reg [0, 1, 2, 3, 4, 5, 6, 7, 8, 9] rfl ?_
  refine o_run ft [0] rfl rfl ?_
  refine o_pu rfl (ev_bin rfl rfl rfl rfl (shr_64 _ 32)) (g0 rfl) rfl rfl ?_
  refine o_pu rfl (ev_conv rfl rfl (conv_u64_u32 _ Tryz.runUnderlying178 Tryz.runUnderlying141)) (g0 rfl) rfl rfl ?_
  obtain ⟨r1, Hc2, H⟩ := bind_some' H
  refine oc (k_call (c_turn_Bytes ((shr64 (a0_n : UInt64) (32 : UInt64).toNat).toUInt32) r1 Hc2) Tryz.call84 rfl rfl rfl [] [] rfl rfl (g0 rfl) rfl rfl ?_)
  rintro _ _ _ ⟨A3, c4, rfl, rfl, rfl⟩
  dsimp only [app]
  refine o_run ft [4] rfl rfl ?_
  refine o_pu rfl (ev_conv rfl rfl (conv_u64_u32 _ Tryz.runUnderlying178 Tryz.runUnderlying141)) (g0 rfl) rfl rfl ?_
  obtain ⟨r5, Hc6, H⟩ := bind_some' H
  refine oc (k_call (c_turn_Bytes a0_n.toUInt32 r5 Hc6) Tryz.call84 rfl rfl rfl [] [] rfl rfl (g0 rfl) rfl rfl ?_)
  rintro _ _ _ ⟨A7, c8, rfl, rfl, rfl⟩
  dsimp only [app]
  refine oc (k_buildSlice (f := EV) [.slice A3 r1.length c4, .slice A7 r5.length c8] rfl rfl rfl rfl Tryz.runUnderlying231 Tryz.sizeOf22 Tryz.zeroValue22 rfl rfl (fill_all rfl rfl (by simp) rfl rfl) (g0 rfl) rfl rfl ?_)
  intro b9
  refine k_sls [(A3, c4, r1), (A7, c8, r5)] 0 rfl [2, 1] rfl ?_
  obtain ⟨r10, Hc11, H⟩ := bind_some' H
  refine oc (k_call (c_slices_Concat ([r1, r5] : List (List UInt8)) (some ⟨b9, 0, none⟩) 2 r10 Hc11) Tryz.call148 rfl rfl rfl [0] [] rfl rfl (g0 rfl) rfl rfl ?_)
  rintro _ _ _ ⟨A12, c13, rfl, rfl, rfl⟩
  dsimp only [app]
  refine o_run ft [9] rfl rfl ?_
  refine o_nil ?_
  refine q_then ?_
  refine s_ret ?_
  cases H
  exact q_end (rs_1 Tryz.results153 (rv_tmp rfl)) ⟨A12, c13, rfl, rfl, rfl⟩ [0] rfl 5 rfl [0] rfl 2 rfl

def sha_told_l0 (a0_h : Arr UInt32 8) (J2 : (List UInt8) → Option (List UInt8)) : Nat → (List UInt8 × Int) → Option (List UInt8)
  | 0, _ => none
  | k5 + 1, s5 =>
    bif (decide (s5.2 < 8)) then (
    chk (0 ≤ s5.2 ∧ s5.2 < 8) <|
    (turn_Bytes (at' 0 a0_h.l s5.2)).bind fun r8 =>
    chk (s5.1.length + r8.length ≤ 68719476736) <|
    sha_told_l0 a0_h J2 k5 ((s5.1 ++ r8), (wrap64 (s5.2 + 1)))) else (
    J2 s5.1)

def sha_told (a0_h : Arr UInt32 8) : Option (List UInt8) :=
jn (fun (x3 : List UInt8) =>
some x3) fun J2 =>
sha_told_l0 a0_h J2 Fuel ([], 0)

theorem c_sha_told (a0_h : Arr UInt32 8) (r : (List UInt8)) (H : sha_told a0_h = some r) : Fn Tryz.prog 154 [(.agg (a0_h.l.flatMap E32).toArray)] [] [] (fun v D' G' => ∃ (A15 : Option Addr) (c16 : Nat), v = (.slice A15 r.length c16) ∧ D' = [Sl E8 A15 c16 r] ∧ G' = [Spare A15 r.length c16 1]) := by
  unfold sha_told at H
  refine fn_of Tryz.func154 rfl Tryz.ntmps154 rfl ?_
  intro w0 D0 G0
  dsimp only [app, initEnv, Nat.zero_add, Nat.reduceAdd]
  refine s_seq ?_
  refine s_reg [0, 1] rfl ?_
  refine oc (k_box rfl rfl rfl (cs := a0_h.l.flatMap E32) rfl (g0 rfl) rfl rfl ?_)
  intro b1
  refine o_run ft [1] rfl rfl ?_
  refine o_nil ?_
  refine q_then ?_
  refine s_seq ?_
  refine s_reg [0] rfl ?_
  refine o_run ft [0] rfl rfl ?_
  refine o_nil ?_
  refine q_then ?_
  refine s_seq ?_
  refine s_seq ?_
  refine s_reg [0, 1] rfl ?_
  refine o_ld (hG 0 rfl) rfl (ev_ldN (j := 0) rfl rfl Tryz.isAgg176 (sz (arr_len E32_len _ rfl) Tryz.sizeOf176) (sub_all _) rfl) (g0 rfl) rfl rfl ?_
  refine o_run ft [1] rfl rfl ?_
  refine o_nil ?_
  refine q_then ?_
  refine q_join (fun (x3 : List UInt8) (y4 : Option Addr × Nat) => ⟨Sl E8 y4.1 y4.2 x3 :: D0, At b1 0 (a0_h.l.flatMap E32) :: Spare y4.1 x3.length y4.2 1 :: G0, [(3, (.slice y4.1 x3.length y4.2))]⟩) H ?_ ?_
  · intro x3 y4 H
    dsimp only
    refine q_then ?_
    refine s_seq ?_
    refine s_reg [0, 1] rfl ?_
    refine o_run ft [0, 1] rfl rfl ?_
    refine o_nil ?_
    refine q_then ?_
    refine s_ret ?_
    cases H
    exact q_end (rs_1 Tryz.results154 (rv_tmp rfl)) ⟨y4.1, y4.2, rfl, rfl, rfl⟩ [0] rfl 1 rfl [1] rfl 1 rfl
  · intro J2 J2h H
    refine s_block ?_
    refine k_nil_sl E8 ?_
    refine k_nil_spare 1 ?_
    refine s_loop (k_wk (loop_ind (fun (s5 : List UInt8 × Int) (y5 : Option Addr × Nat) => ⟨Sl E8 y5.1 y5.2 s5.1 :: D0, At b1 0 (a0_h.l.flatMap E32) :: Spare y5.1 s5.1.length y5.2 1 :: G0, [(3, (.slice y5.1 s5.1.length y5.2)), (6, (.agg (a0_h.l.flatMap E32).toArray)), (7, (vi s5.2))]⟩) (sha_told_l0 a0_h J2) _ (fun _ => rfl) ?_ Fuel ([], 0) (none, 0) H) [3, 6, 7] [0] 1 [1, 0] 0 rfl rfl rfl)
    intro k5 s5 y5 ih H
    dsimp only
    rw [sha_told_l0] at H
    refine s_seq ?_
    refine s_reg [0] rfl ?_
    refine o_run ft [0] rfl rfl ?_
    refine o_nil ?_
    refine q_then ?_
    refine s_seq ?_
    refine s_cond rfl ?_ ?_
    · intro hb6
      have H := cnd_t H hb6
      refine s_skip ?_
      refine q_then ?_
      refine s_seq ?_
      refine s_block ?_
      refine s_seq ?_
      refine s_reg [0, 1] rfl ?_
      obtain ⟨hk7, H⟩ := chk_some H
      refine o_pu rfl (ev_index_arr (k := s5.2) (g := v32) 0 rfl rfl rfl Tryz.runUnderlying176 Tryz.sizeOf141 Tryz.isAgg141 E32_len (fun _ => rfl) hk7) (g0 rfl) rfl rfl ?_
      refine o_run ft [1] rfl rfl ?_
      refine o_nil ?_
      refine q_then ?_
      refine s_reg [0, 1, 2, 3, 4] rfl ?_
      refine o_run ft [0, 1] rfl rfl ?_
      obtain ⟨r8, Hc9, H⟩ := bind_some' H
      refine oc (k_call (c_turn_Bytes (at' 0 a0_h.l s5.2) r8 Hc9) Tryz.call84 rfl rfl rfl [] [] rfl rfl (g0 rfl) rfl rfl ?_)
      rintro _ _ _ ⟨A10, c11, rfl, rfl, rfl⟩
      dsimp only [app]
      obtain ⟨hk14, H⟩ := chk_some H
      refine oc (k_append 1 0 2 rfl rfl rfl rfl rfl rfl rfl E8_len E8_one Tryz.underlying22 Tryz.underlying22 info5 rfl rfl rfl rfl hk14 (g0 rfl) rfl rfl ?_)
      intro A12 c13
      refine o_run ft [4] rfl rfl ?_
      refine o_nil ?_
      refine q_block ?_
      refine q_then ?_
      refine s_reg [0, 1] rfl ?_
      refine o_run ft [0, 1] rfl rfl ?_
      refine o_nil ?_
      refine q_loop ?_
      exact k_wk (ih ((s5.1 ++ r8), (wrap64 (s5.2 + 1))) (A12, c13) H) [3, 6, 7] [0] 3 [1, 1] 1 rfl rfl rfl
    · intro hb6
      have H := cnd_f H hb6
      refine s_exit ?_
      refine q_then_x ?_
      refine q_then_x ?_
      refine q_block_x ?_
      exact k_wk (J2h s5.1 (y5.1, y5.2) H) [3] [0] 1 [0, 0] 0 rfl rfl rfl

def math_bits_Mul32 (a0_x : UInt32) (a1_y : UInt32) : Option (UInt32 × UInt32) :=
some ((shr64 ((a0_x.toUInt64 * a1_y.toUInt64) : UInt64) (32 : UInt64).toNat).toUInt32, (a0_x.toUInt64 * a1_y.toUInt64).toUInt32)

theorem c_math_bits_Mul32 (a0_x : UInt32) (a1_y : UInt32) (r : UInt32 × UInt32) (H : math_bits_Mul32 a0_x a1_y = some r) : Fn Tryz.prog 155 [(v32 a0_x), (v32 a1_y)] [] [] (fun v D' G' => v = (.tuple #[(v32 r.1), (v32 r.2)]) ∧ D' = [] ∧ G' = []) := by
  unfold math_bits_Mul32 at H
  refine fn_of Tryz.func155 rfl Tryz.ntmps155 rfl ?_
  intro w0 D0 G0
  dsimp only [app, initEnv, Nat.zero_add, Nat.reduceAdd]
  refine s_seq ?_
  refine s_reg [0, 1] rfl ?_
  refine o_run ft [0, 1] rfl rfl ?_
  refine o_nil ?_
  refine q_then ?_
  refine s_seq ?_
  refine s_reg [0, 1, 2, 3, 4, 5] rfl ?_
  refine o_run ft [0] rfl rfl ?_
  refine o_pu rfl (ev_conv rfl rfl (conv_u32_u64 _ Tryz.runUnderlying141 Tryz.runUnderlying178)) (g0 rfl) rfl rfl ?_
  refine o_run ft [2] rfl rfl ?_
  refine o_pu rfl (ev_conv rfl rfl (conv_u32_u64 _ Tryz.runUnderlying141 Tryz.runUnderlying178)) (g0 rfl) rfl rfl ?_
  refine o_pu rfl (ev_bin rfl rfl rfl rfl (mul_64 _ _)) (g0 rfl) rfl rfl ?_
  refine o_run ft [5] rfl rfl ?_
  refine o_nil ?_
  refine q_then ?_
  refine s_seq ?_
  refine s_reg [0, 1, 2, 3, 4, 5, 6] rfl ?_
  refine o_run ft [0] rfl rfl ?_
  refine o_pu rfl (ev_bin rfl rfl rfl rfl (shr_64 _ 32)) (g0 rfl) rfl rfl ?_
  refine o_pu rfl (ev_conv rfl rfl (conv_u64_u32 _ Tryz.runUnderlying178 Tryz.runUnderlying141)) (g0 rfl) rfl rfl ?_
  refine o_run ft [3] rfl rfl ?_
  refine o_pu rfl (ev_conv rfl rfl (conv_u64_u32 _ Tryz.runUnderlying178 Tryz.runUnderlying141)) (g0 rfl) rfl rfl ?_
  refine o_run ft [5, 6] rfl rfl ?_
  refine o_nil ?_
  refine q_then ?_
  refine s_ret ?_
  cases H
  exact q_end (rs_2 Tryz.results155 (rv_tmp rfl) (rv_tmp rfl)) ⟨rfl, rfl, rfl⟩ [] rfl 0 rfl [] rfl 0 rfl

def math_bits_Mul64 (a0_x : UInt64) (a1_y : UInt64) : Option (UInt64 × UInt64) :=
some (((((shr64 (a0_x : UInt64) (32 : UInt64).toNat) * (shr64 (a1_y : UInt64) (32 : UInt64).toNat)) + (shr64 ((((shr64 (a0_x : UInt64) (32 : UInt64).toNat) * (a1_y &&& (4294967295 : UInt64))) + (shr64 (((a0_x &&& (4294967295 : UInt64)) * (a1_y &&& (4294967295 : UInt64))) : UInt64) (32 : UInt64).toNat)) : UInt64) (32 : UInt64).toNat)) + (shr64 ((((((shr64 (a0_x : UInt64) (32 : UInt64).toNat) * (a1_y &&& (4294967295 : UInt64))) + (shr64 (((a0_x &&& (4294967295 : UInt64)) * (a1_y &&& (4294967295 : UInt64))) : UInt64) (32 : UInt64).toNat)) &&& (4294967295 : UInt64)) + ((a0_x &&& (4294967295 : UInt64)) * (shr64 (a1_y : UInt64) (32 : UInt64).toNat))) : UInt64) (32 : UInt64).toNat)), (a0_x * a1_y))

theorem c_math_bits_Mul64 (a0_x : UInt64) (a1_y : UInt64) (r : UInt64 × UInt64) (H : math_bits_Mul64 a0_x a1_y = some r) : Fn Tryz.prog 156 [(v64 a0_x), (v64 a1_y)] [] [] (fun v D' G' => v = (.tuple #[(v64 r.1), (v64 r.2)]) ∧ D' = [] ∧ G' = []) := by
  unfold math_bits_Mul64 at H
  refine fn_of Tryz.func156 rfl Tryz.ntmps156 rfl ?_
  intro w0 D0 G0
  dsimp only [app, initEnv, Nat.zero_add, Nat.reduceAdd]
  refine s_seq ?_
  refine s_reg [0, 1] rfl ?_
  refine o_run ft [0, 1] rfl rfl ?_
  refine o_nil ?_
  refine q_then ?_
  refine s_seq ?_
  refine s_reg [0, 1, 2] rfl ?_
  refine o_run ft [0] rfl rfl ?_
  refine o_pu rfl (ev_bin rfl rfl rfl rfl (and_64 _ 4294967295)) (g0 rfl) rfl rfl ?_
  refine o_run ft [2] rfl rfl ?_
  refine o_nil ?_
  refine q_then ?_
  refine s_seq ?_
  refine s_reg [0, 1, 2] rfl ?_
  refine o_run ft [0] rfl rfl ?_
  refine o_pu rfl (ev_bin rfl rfl rfl rfl (shr_64 _ 32)) (g0 rfl) rfl rfl ?_
  refine o_run ft [2] rfl rfl ?_
  refine o_nil ?_
  refine q_then ?_
  refine s_seq ?_
  refine s_reg [0, 1, 2] rfl ?_
  refine o_run ft [0] rfl rfl ?_
  refine o_pu rfl (ev_bin rfl rfl rfl rfl (and_64 _ 4294967295)) (g0 rfl) rfl rfl ?_
  refine o_run ft [2] rfl rfl ?_
  refine o_nil ?_
  refine q_then ?_
  refine s_seq ?_
  refine s_reg [0, 1, 2] rfl ?_
  refine o_run ft [0] rfl rfl ?_
  refine o_pu rfl (ev_bin rfl rfl rfl rfl (shr_64 _ 32)) (g0 rfl) rfl rfl ?_
  refine o_run ft [2] rfl rfl ?_
  refine o_nil ?_
  refine q_then ?_
  refine s_seq ?_
  refine s_reg [0, 1, 2, 3] rfl ?_
  refine o_run ft [0, 1] rfl rfl ?_
  refine o_pu rfl (ev_bin rfl rfl rfl rfl (mul_64 _ _)) (g0 rfl) rfl rfl ?_
  refine o_run ft [3] rfl rfl ?_
  refine o_nil ?_
  refine q_then ?_
  refine s_seq ?_
  refine s_reg [0, 1, 2, 3, 4, 5, 6] rfl ?_
  refine o_run ft [0, 1] rfl rfl ?_
  refine o_pu rfl (ev_bin rfl rfl rfl rfl (mul_64 _ _)) (g0 rfl) rfl rfl ?_
  refine o_run ft [3] rfl rfl ?_
  refine o_pu rfl (ev_bin rfl rfl rfl rfl (shr_64 _ 32)) (g0 rfl) rfl rfl ?_
  refine o_pu rfl (ev_bin rfl rfl rfl rfl (add_64 _ _)) (g0 rfl) rfl rfl ?_
  refine o_run ft [6] rfl rfl ?_
  refine o_nil ?_
  refine q_then ?_
  refine s_seq ?_
  refine s_reg [0, 1, 2] rfl ?_
  refine o_run ft [0] rfl rfl ?_
  refine o_pu rfl (ev_bin rfl rfl rfl rfl (and_64 _ 4294967295)) (g0 rfl) rfl rfl ?_
  refine o_run ft [2] rfl rfl ?_
  refine o_nil ?_
  refine q_then ?_
  refine s_seq ?_
  refine s_reg [0, 1, 2] rfl ?_
  refine o_run ft [0] rfl rfl ?_
  refine o_pu rfl (ev_bin rfl rfl rfl rfl (shr_64 _ 32)) (g0 rfl) rfl rfl ?_
  refine o_run ft [2] rfl rfl ?_
  refine o_nil ?_
  refine q_then ?_
  refine s_seq ?_
  refine s_reg [0, 1, 2, 3, 4, 5] rfl ?_
  refine o_run ft [0, 1, 2] rfl rfl ?_
  refine o_pu rfl (ev_bin rfl rfl rfl rfl (mul_64 _ _)) (g0 rfl) rfl rfl ?_
  refine o_pu rfl (ev_bin rfl rfl rfl rfl (add_64 _ _)) (g0 rfl) rfl rfl ?_
  refine o_run ft [5] rfl rfl ?_
  refine o_nil ?_
  refine q_then ?_
  refine s_seq ?_
  refine s_reg [0, 1, 2, 3, 4, 5, 6, 7, 8] rfl ?_
  refine o_run ft [0, 1] rfl rfl ?_
  refine o_pu rfl (ev_bin rfl rfl rfl rfl (mul_64 _ _)) (g0 rfl) rfl rfl ?_
  refine o_run ft [3] rfl rfl ?_
  refine o_pu rfl (ev_bin rfl rfl rfl rfl (add_64 _ _)) (g0 rfl) rfl rfl ?_
  refine o_run ft [5] rfl rfl ?_
  refine o_pu rfl (ev_bin rfl rfl rfl rfl (shr_64 _ 32)) (g0 rfl) rfl rfl ?_
  refine o_pu rfl (ev_bin rfl rfl rfl rfl (add_64 _ _)) (g0 rfl) rfl rfl ?_
  refine o_run ft [8] rfl rfl ?_
  refine o_nil ?_
  refine q_then ?_
  refine s_seq ?_
  refine s_reg [0, 1, 2, 3] rfl ?_
  refine o_run ft [0, 1] rfl rfl ?_
  refine o_pu rfl (ev_bin rfl rfl rfl rfl (mul_64 _ _)) (g0 rfl) rfl rfl ?_
  refine o_run ft [3] rfl rfl ?_
  refine o_nil ?_
  refine q_then ?_
  refine s_ret ?_
  cases H
  exact q_end (rs_2 Tryz.results156 (rv_tmp rfl) (rv_tmp rfl)) ⟨rfl, rfl, rfl⟩ [] rfl 0 rfl [] rfl 0 rfl

def area_Area_is (a0_a : AreaS) (a1_sector : Int) : Option Bool :=
bnd (decide (a1_sector ≥ 0)) fun b1 =>
jn (fun x4 =>
some x4) fun J3 =>
bif b1 then (
(area_Area_Len a0_a).bind fun r5 =>
J3 (decide (a1_sector < r5))) else
J3 false

theorem c_area_Area_is (fp0 : Nat) (a0_ap : Nat) (a0_a : AreaS) (a1_sector : Int) (r : Bool) (H : area_Area_is a0_a a1_sector = some r) : Fn Tryz.prog 159 [(.pointer (some ⟨a0_ap, 0, none⟩)), (vi a1_sector)] [] [AreaT fp0 () a0_ap a0_a] (fun v D' G' => v = (vb r) ∧ D' = [] ∧ G' = [AreaT fp0 () a0_ap a0_a]) := by
  unfold area_Area_is at H
  refine fn_of Tryz.func159 rfl Tryz.ntmps159 rfl ?_
  intro w0 D0 G0
  dsimp only [app, initEnv, Nat.zero_add, Nat.reduceAdd]
  refine s_seq ?_
  refine s_reg [0] rfl ?_
  refine o_run ft [0] rfl rfl ?_
  refine o_nil ?_
  refine q_then ?_
  refine s_seq ?_
  refine s_reg [0, 1, 2, 3, 4, 5, 6, 7, 8] rfl ?_
  refine o_run ft [0, 1, 2] rfl rfl ?_
  refine k_name 7 rfl ?_
  intro b1 hb2
  have H := bnd_eq H hb2
  refine o_jb 12 [8] [0, 1, 4, 5, 6, 7] H rfl ?_ ?_
  · intro x4 H
    refine o_run ft [8] rfl rfl ?_
    refine o_nil ?_
    refine q_then ?_
    refine s_ret ?_
    cases H
    exact q_end (rs_1 Tryz.results159 (rv_tmp rfl)) ⟨rfl, rfl, rfl⟩ [] rfl 0 rfl [0] rfl 0 rfl
  · intro J3 J3h H
    cases b1 with
    | true =>
      rw [cond_true] at H
      refine o_run ft [3, 4] rfl rfl ?_
      obtain ⟨r5, Hc6, H⟩ := bind_some' H
      refine oc (k_call (c_area_Area_Len fp0 a0_ap a0_a r5 Hc6) Tryz.call81 rfl rfl rfl [] [0] rfl rfl (g1 rfl rfl rfl rfl) rfl rfl ?_)
      rintro _ _ _ ⟨rfl, rfl, rfl⟩
      dsimp only [app]
      refine o_run ft [6, 7] rfl rfl ?_
      exact k_wk (J3h (decide (a1_sector < r5)) H) [12, 0, 1, 4, 5, 6, 7] [] 0 [0] 0 rfl rfl rfl
    | false =>
      rw [cond_false] at H
      refine o_gnot rfl rfl rfl rfl rfl rfl rfl rfl ?_
      refine o_gnot rfl rfl rfl rfl rfl rfl rfl rfl ?_
      refine o_gnot rfl rfl rfl rfl rfl rfl rfl rfl ?_
      refine o_gnot rfl rfl rfl rfl rfl rfl rfl rfl ?_
      refine o_run ft [7] rfl rfl ?_
      exact k_wk (J3h false H) [12, 0, 1, 4, 5, 6, 7] [] 0 [0] 0 rfl rfl rfl

def cell_May (a0_seq : Int) : Option Bool :=
bnd (decide (a0_seq ≥ 1)) fun b1 =>
jn (fun x4 =>
some x4) fun J3 =>
bif b1 then (
J3 (decide (a0_seq ≤ 2147483647))) else
J3 false

theorem c_cell_May (a0_seq : Int) (r : Bool) (H : cell_May a0_seq = some r) : Fn Tryz.prog 164 [(vi a0_seq)] [] [] (fun v D' G' => v = (vb r) ∧ D' = [] ∧ G' = []) := by
  unfold cell_May at H
  refine fn_of Tryz.func164 rfl Tryz.ntmps164 rfl ?_
  intro w0 D0 G0
  dsimp only [app, initEnv, Nat.zero_add, Nat.reduceAdd]
  refine s_seq ?_
  refine s_reg [0] rfl ?_
  refine o_run ft [0] rfl rfl ?_
  refine o_nil ?_
  refine q_then ?_
  refine s_seq ?_
  refine s_reg [0, 1, 2, 3, 4, 5, 6] rfl ?_
  refine o_run ft [0, 1, 2] rfl rfl ?_
  refine k_name 5 rfl ?_
  intro b1 hb2
  have H := bnd_eq H hb2
  refine o_jb 8 [6] [0, 2, 3, 4, 5] H rfl ?_ ?_
  · intro x4 H
    refine o_run ft [6] rfl rfl ?_
    refine o_nil ?_
    refine q_then ?_
    refine s_ret ?_
    cases H
    exact q_end (rs_1 Tryz.results164 (rv_tmp rfl)) ⟨rfl, rfl, rfl⟩ [] rfl 0 rfl [] rfl 0 rfl
  · intro J3 J3h H
    cases b1 with
    | true =>
      rw [cond_true] at H
      refine o_run ft [3, 4, 5] rfl rfl ?_
      exact k_wk (J3h (decide (a0_seq ≤ 2147483647)) H) [8, 0, 2, 3, 4, 5] [] 0 [] 0 rfl rfl rfl
    | false =>
      rw [cond_false] at H
      refine o_gnot rfl rfl rfl rfl rfl rfl rfl rfl ?_
      refine o_gnot rfl rfl rfl rfl rfl rfl rfl rfl ?_
      refine o_run ft [5] rfl rfl ?_
      exact k_wk (J3h false H) [8, 0, 2, 3, 4, 5] [] 0 [] 0 rfl rfl rfl

def field_Writer_Raw (a0_w : WriterS) (a1_b : List UInt8) (a2_size : Int) : Option WriterS :=
bnd (if 0 < (if 1000 < a2_size then 1000 else a2_size) then (if 1000 < a2_size then 1000 else a2_size) else 0) fun x5 =>
chk (0 ≤ x5 ∧ x5 ≤ 68719476736) <|
chk ((List.replicate x5.toNat (0 : UInt8)).length = x5.toNat) <|
chk ((cpy (List.replicate x5.toNat (0 : UInt8)) a1_b).length = x5.toNat) <|
chk (a0_w.b.length + (cpy (List.replicate x5.toNat (0 : UInt8)) a1_b).length ≤ 68719476736) <|
some (⟨(a0_w.b ++ (cpy (List.replicate x5.toNat (0 : UInt8)) a1_b))⟩ : WriterS)

theorem c_field_Writer_Raw (a0_wp : Nat) (a0_w : WriterS) (A1 : Option Addr) (c2 : Nat) (a1_b : List UInt8) (A3 : Option Addr) (c4 : Nat) (a2_size : Int) (r : WriterS) (H : field_Writer_Raw a0_w a1_b a2_size = some r) : Fn Tryz.prog 165 [(.pointer (some ⟨a0_wp, 0, none⟩)), (.slice A3 a1_b.length c4), (vi a2_size)] [Sl E8 A3 c4 a1_b, Sl E8 A1 c2 a0_w.b] [At a0_wp 0 [.slice A1 a0_w.b.length c2], Spare A1 a0_w.b.length c2 1] (fun v D' G' => ∃ (A14 : Option Addr) (c15 : Nat), v = (.tuple #[]) ∧ D' = [Sl E8 A14 c15 r.b] ∧ G' = [At a0_wp 0 [.slice A14 r.b.length c15], Spare A14 r.b.length c15 1]) := by
  unfold field_Writer_Raw at H
  refine fn_of Tryz.func165 rfl Tryz.ntmps165 rfl ?_
  intro w0 D0 G0
  dsimp only [app, initEnv, Nat.zero_add, Nat.reduceAdd]
  refine s_seq ?_
  refine s_reg [0, 1, 2, 3, 4] rfl ?_
  refine o_run ft [0] rfl rfl ?_
  refine o_pu rfl (ev_min rfl rfl rfl) (g0 rfl) rfl rfl ?_
  refine o_pu rfl (ev_max rfl rfl rfl) (g0 rfl) rfl rfl ?_
  obtain ⟨x5, hx6⟩ : ∃ x : Int, x = (if 0 < (if 1000 < a2_size then 1000 else a2_size) then (if 1000 < a2_size then 1000 else a2_size) else 0) := ⟨_, rfl⟩
  have H := bnd_eq H hx6
  refine k_eq (v' := vi x5) 9 rfl (by rw [hx6]) ?_
  obtain ⟨hk8, H⟩ := chk_some H
  refine oc (k_make (f := E8) (m := x5) (0 : UInt8) rfl rfl rfl rfl Tryz.underlying22 info5 rfl rfl rfl rfl rfl hk8 (g0 rfl) rfl rfl ?_)
  intro b7
  refine o_run ft [4] rfl rfl ?_
  refine o_nil ?_
  refine q_then ?_
  refine s_seq ?_
  refine s_reg [0, 1, 2] rfl ?_
  refine o_run ft [0, 1] rfl rfl ?_
  obtain ⟨hk9, H⟩ := chk_some H
  refine oc (k_copy (xs := (List.replicate x5.toNat (0 : UInt8))) (j := 0) rfl rfl rfl rfl Tryz.underlying22 info5 rfl E8_len E8_one 0 rfl 0 rfl hk9 (sub_all _) (spl_all (by rw [flatMap_length E8_len, flatMap_length E8_len, cpy_len])) rfl (g0 rfl) rfl rfl ?_)
  refine o_nil ?_
  refine q_then ?_
  refine s_reg [0, 1, 2, 3, 4, 5, 6, 7, 8, 9] rfl ?_
  refine o_run ft [0, 1, 2, 3] rfl rfl ?_
  refine o_ld (hG 1 rfl) rfl (ev_ld1 (j := 0) rfl rfl Tryz.isAgg22 (sub_nth (j := 0) rfl) rfl) (g0 rfl) rfl rfl ?_
  refine o_run ft [5] rfl rfl ?_
  obtain ⟨hk10, H⟩ := chk_some H
  refine k_keep 0 rfl ?_
  refine k_ro_sl (f := E8) (cap := x5.toNat) (cpy (List.replicate x5.toNat (0 : UInt8)) a1_b) 0 rfl (sub_all _) rfl (Nat.le_of_eq hk10) (by have := hk8; omega) ?_
  refine k_eq (v' := (.slice (some ⟨b7, 0, none⟩) (cpy (List.replicate x5.toNat (0 : UInt8)) a1_b).length x5.toNat)) 6 rfl (congrArg (fun z => Value.slice (some ⟨b7, 0, none⟩) z x5.toNat) hk10.symm) ?_
  refine k_eq (v' := (.slice (some ⟨b7, 0, none⟩) (cpy (List.replicate x5.toNat (0 : UInt8)) a1_b).length x5.toNat)) 10 rfl (congrArg (fun z => Value.slice (some ⟨b7, 0, none⟩) z x5.toNat) hk10.symm) ?_
  refine k_eq (v' := (.slice (some ⟨b7, 0, none⟩) (cpy (List.replicate x5.toNat (0 : UInt8)) a1_b).length x5.toNat)) 11 rfl (congrArg (fun z => Value.slice (some ⟨b7, 0, none⟩) z x5.toNat) hk10.symm) ?_
  refine k_eq (v' := (.slice (some ⟨b7, 0, none⟩) (cpy (List.replicate x5.toNat (0 : UInt8)) a1_b).length x5.toNat)) 19 rfl (congrArg (fun z => Value.slice (some ⟨b7, 0, none⟩) z x5.toNat) hk10.symm) ?_
  refine k_spare_full (some ⟨b7, 0, none⟩) (cpy (List.replicate x5.toNat (0 : UInt8)) a1_b).length x5.toNat 1 hk10 ?_
  obtain ⟨hk13, H⟩ := chk_some H
  refine oc (k_append 3 0 2 rfl rfl rfl rfl rfl rfl rfl E8_len E8_one Tryz.underlying22 Tryz.underlying22 info5 rfl rfl rfl rfl hk13 (g0 rfl) rfl rfl ?_)
  intro A11 c12
  refine o_run ft [7, 8] rfl rfl ?_
  refine oc (k_st (j := 0) rfl rfl rfl rfl (vs := [.slice A11 (a0_w.b ++ (cpy (List.replicate x5.toNat (0 : UInt8)) a1_b)).length c12]) rfl (sz rfl Tryz.sizeOf22) rfl 1 rfl (spl_lit (j := 0) (cs' := [.slice A11 (a0_w.b ++ (cpy (List.replicate x5.toNat (0 : UInt8)) a1_b)).length c12]) rfl rfl) rfl (g0 rfl) rfl ?_)
  refine o_nil ?_
  cases H
  exact q_end_n (rs_0 Tryz.results165) ⟨A11, c12, rfl, rfl, rfl⟩ [0] rfl 5 rfl [1, 1] rfl 1 rfl

def dual_Put_l0 (a0_b : List UInt8) (J5 : (List UInt8) → Option (List UInt8)) : Nat → (List UInt8 × Int) → Option (List UInt8)
  | 0, _ => none
  | k8 + 1, s8 =>
    bif (decide (s8.2 < (a0_b.length : Int))) then (
    chk (0 ≤ s8.2 ∧ s8.2 < a0_b.length) <|
    chk (s8.1.length + ([(at' 0 a0_b s8.2), (~~~(at' 0 a0_b s8.2))] : List UInt8).length ≤ 68719476736) <|
    dual_Put_l0 a0_b J5 k8 ((s8.1 ++ ([(at' 0 a0_b s8.2), (~~~(at' 0 a0_b s8.2))] : List UInt8)), (wrap64 (s8.2 + 1)))) else (
    J5 s8.1)

def dual_Put (a0_b : List UInt8) : Option (List UInt8) :=
chk (0 ≤ (wrap64 (2 * (a0_b.length : Int))) ∧ (wrap64 (2 * (a0_b.length : Int))) ≤ 68719476736) <|
jn (fun (x6 : List UInt8) =>
some x6) fun J5 =>
dual_Put_l0 a0_b J5 Fuel ([], 0)

theorem c_dual_Put (a0_b : List UInt8) (A1 : Option Addr) (c2 : Nat) (r : (List UInt8)) (H : dual_Put a0_b = some r) : Fn Tryz.prog 166 [(.slice A1 a0_b.length c2)] [Sl E8 A1 c2 a0_b] [] (fun v D' G' => ∃ (A17 : Option Addr) (c18 : Nat), v = (.slice A17 r.length c18) ∧ D' = [Sl E8 A17 c18 r] ∧ G' = [Spare A17 r.length c18 1]) := by
  unfold dual_Put at H
  refine fn_of Tryz.func166 rfl Tryz.ntmps166 rfl ?_
  intro w0 D0 G0
  dsimp only [app, initEnv, Nat.zero_add, Nat.reduceAdd]
  refine s_seq ?_
  refine s_reg [0] rfl ?_
  refine o_run ft [0] rfl rfl ?_
  refine o_nil ?_
  refine q_then ?_
  refine s_seq ?_
  refine s_reg [0, 1, 2, 3, 4] rfl ?_
  refine o_run ft [0] rfl rfl ?_
  refine o_pu rfl (ev_len_slice rfl rfl Tryz.runUnderlying22) (g0 rfl) rfl rfl ?_
  refine o_run ft [2] rfl rfl ?_
  obtain ⟨hk4, H⟩ := chk_some H
  refine oc (k_make0 (f := E8) (m := (wrap64 (2 * (a0_b.length : Int)))) rfl rfl rfl rfl Tryz.underlying22 info5 rfl rfl rfl rfl hk4 (g0 rfl) rfl rfl ?_)
  intro b3
  refine o_run ft [4] rfl rfl ?_
  refine o_nil ?_
  refine q_then ?_
  refine s_seq ?_
  refine s_seq ?_
  refine s_reg [0, 1, 2] rfl ?_
  refine o_run ft [0] rfl rfl ?_
  refine o_pu rfl (ev_len_slice rfl rfl Tryz.runUnderlying22) (g0 rfl) rfl rfl ?_
  refine o_run ft [2] rfl rfl ?_
  refine o_nil ?_
  refine q_then ?_
  refine q_join (fun (x6 : List UInt8) (y7 : Option Addr × Nat) => ⟨Sl E8 y7.1 y7.2 x6 :: Sl E8 (some ⟨b3, 0, none⟩) ((wrap64 (2 * (a0_b.length : Int))).toNat) [] :: Sl E8 A1 c2 a0_b :: D0, Spare y7.1 x6.length y7.2 1 :: G0, [(3, (.slice y7.1 x6.length y7.2))]⟩) H ?_ ?_
  · intro x6 y7 H
    dsimp only
    refine q_then ?_
    refine s_seq ?_
    refine s_reg [0, 1] rfl ?_
    refine o_run ft [0, 1] rfl rfl ?_
    refine o_nil ?_
    refine q_then ?_
    refine s_ret ?_
    cases H
    exact q_end (rs_1 Tryz.results166 (rv_tmp rfl)) ⟨y7.1, y7.2, rfl, rfl, rfl⟩ [0] rfl 3 rfl [0] rfl 0 rfl
  · intro J5 J5h H
    refine s_block ?_
    refine s_loop (k_wk (loop_ind (fun (s8 : List UInt8 × Int) (y8 : Option Addr × Nat) => ⟨Sl E8 y8.1 y8.2 s8.1 :: Sl E8 (some ⟨b3, 0, none⟩) ((wrap64 (2 * (a0_b.length : Int))).toNat) [] :: Sl E8 A1 c2 a0_b :: D0, Spare y8.1 s8.1.length y8.2 1 :: G0, [(3, (.slice y8.1 s8.1.length y8.2)), (10, (.slice A1 a0_b.length c2)), (11, (vi (a0_b.length : Int))), (12, (vi s8.2))]⟩) (dual_Put_l0 a0_b J5) _ (fun _ => rfl) ?_ Fuel ([], 0) ((some ⟨b3, 0, none⟩), (wrap64 (2 * (a0_b.length : Int))).toNat) H) [3, 10, 11, 12] [0, 0, 1] 2 [0] 0 rfl rfl rfl)
    intro k8 s8 y8 ih H
    dsimp only
    rw [dual_Put_l0] at H
    refine s_seq ?_
    refine s_reg [0] rfl ?_
    refine o_run ft [0] rfl rfl ?_
    refine o_nil ?_
    refine q_then ?_
    refine s_seq ?_
    refine s_cond rfl ?_ ?_
    · intro hb9
      have H := cnd_t H hb9
      refine s_skip ?_
      refine q_then ?_
      refine s_seq ?_
      refine s_block ?_
      refine s_seq ?_
      refine s_reg [0, 1, 2] rfl ?_
      obtain ⟨hk12, H⟩ := chk_some H
      refine oc (k_idx 0 2 rfl rfl rfl rfl rfl E8_len rfl Tryz.runUnderlying22 Tryz.sizeOf5 hk12 (g0 rfl) rfl rfl ?_)
      intro b10 q11
      refine o_ld (hD 0 rfl) rfl (ev_ld1 (j := 0) rfl rfl Tryz.isAgg5 (sub_nth (j := 0) rfl) rfl) (g0 rfl) rfl rfl ?_
      refine o_run ft [2] rfl rfl ?_
      refine o_nil ?_
      refine q_then ?_
      refine s_reg [0, 1, 2, 3, 4, 5, 6] rfl ?_
      refine o_run ft [0, 1, 2] rfl rfl ?_
      refine o_pu rfl (ev_un rfl rfl (not_8 _)) (g0 rfl) rfl rfl ?_
      refine oc (k_buildSlice (f := E8) ([(at' 0 a0_b s8.2), (~~~(at' 0 a0_b s8.2))] : List UInt8) rfl rfl rfl rfl Tryz.runUnderlying22 Tryz.sizeOf5 Tryz.zeroValue5 rfl rfl (fill_all rfl rfl (by simp) rfl rfl) (g0 rfl) rfl rfl ?_)
      intro b13
      obtain ⟨hk16, H⟩ := chk_some H
      refine oc (k_append 2 0 0 rfl rfl rfl rfl rfl rfl rfl E8_len E8_one Tryz.underlying22 Tryz.underlying22 info5 rfl rfl rfl rfl hk16 (g0 rfl) rfl rfl ?_)
      intro A14 c15
      refine o_run ft [6] rfl rfl ?_
      refine o_nil ?_
      refine q_block ?_
      refine q_then ?_
      refine s_reg [0, 1] rfl ?_
      refine o_run ft [0, 1] rfl rfl ?_
      refine o_nil ?_
      refine q_loop ?_
      exact k_wk (ih ((s8.1 ++ ([(at' 0 a0_b s8.2), (~~~(at' 0 a0_b s8.2))] : List UInt8)), (wrap64 (s8.2 + 1))) (A14, c15) H) [3, 10, 11, 12] [0, 4, 5] 6 [0] 0 rfl rfl rfl
    · intro hb9
      have H := cnd_f H hb9
      refine s_exit ?_
      refine q_then_x ?_
      refine q_then_x ?_
      refine q_block_x ?_
      exact k_wk (J5h s8.1 (y8.1, y8.2) H) [3] [0, 1, 2] 3 [0] 0 rfl rfl rfl

def meta_none (a0_i : Img) : Option Bool :=
some (decide (a0_i = Img.zero))

theorem c_meta_none (a0_i : Img) (r : Bool) (H : meta_none a0_i = some r) : Fn Tryz.prog 168 [(.agg (Img.cells a0_i).toArray)] [] [] (fun v D' G' => v = (vb r) ∧ D' = [] ∧ G' = []) := by
  unfold meta_none at H
  refine fn_of Tryz.func168 rfl Tryz.ntmps168 rfl ?_
  intro w0 D0 G0
  dsimp only [app, initEnv, Nat.zero_add, Nat.reduceAdd]
  refine s_seq ?_
  refine s_reg [0, 1] rfl ?_
  refine oc (k_box rfl rfl rfl (cs := Img.cells a0_i) rfl (g0 rfl) rfl rfl ?_)
  intro b1
  refine o_run ft [1] rfl rfl ?_
  refine o_nil ?_
  refine q_then ?_
  refine s_seq ?_
  refine s_reg [0, 1, 2, 3] rfl ?_
  refine o_ld (hG 0 rfl) rfl (ev_ldN (j := 0) rfl rfl Tryz.isAgg49 (sz (Img.len _) Tryz.sizeOf49) (sub_all _) rfl) (g0 rfl) rfl rfl ?_
  refine o_pu rfl (ev_build (cs := Img.cells Img.zero) rfl rfl Tryz.zeroValue49 Tryz.runUnderlying49 pl49 (show Instr.fill _ (Img.cells Img.zero : List Value).toArray _ = some _ from fill_nil)) (g0 rfl) rfl rfl ?_
  refine o_pu rfl (ev_eqA (f := Img.cells) (X := a0_i) (Y := Img.zero) rfl rfl rfl eqT49 rfl Tryz.isAgg49 Tryz.sizeOf49 Img.len eqG49) (g0 rfl) rfl rfl ?_
  refine o_run ft [3] rfl rfl ?_
  refine o_nil ?_
  refine q_then ?_
  refine s_ret ?_
  cases H
  exact q_end (rs_1 Tryz.results168 (rv_tmp rfl)) ⟨rfl, rfl, rfl⟩ [] rfl 0 rfl [] rfl 1 rfl

def field_Reader_take (a0_r : ReaderS) (a1_n : Int) : Option ((List UInt8) × ReaderS) :=
bif a0_r.bad then (
some ([], (⟨a0_r.b, a0_r.bad⟩ : ReaderS))) else (
bif (decide (a1_n > (a0_r.b.length : Int))) then (
some ([], (⟨[], true⟩ : ReaderS))) else (
chk (0 ≤ (0 : Int) ∧ (0 : Int) ≤ a1_n ∧ a1_n ≤ (a0_r.b.length : Int)) <|
chk (0 ≤ a1_n ∧ a1_n ≤ (a0_r.b.length : Int) ∧ (a0_r.b.length : Int) ≤ (a0_r.b.length : Int)) <|
some ((slc a0_r.b (0 : Int) a1_n), (⟨(slc a0_r.b a1_n (a0_r.b.length : Int)), a0_r.bad⟩ : ReaderS))))

theorem c_field_Reader_take (a0_rp : Nat) (a0_r : ReaderS) (A1 : Option Addr) (c2 : Nat) (a1_n : Int) (r : (List UInt8) × ReaderS) (H : field_Reader_take a0_r a1_n = some r) : Fn Tryz.prog 170 [(.pointer (some ⟨a0_rp, 0, none⟩)), (vi a1_n)] [Sl E8 A1 c2 a0_r.b] [At a0_rp 0 [.slice A1 a0_r.b.length c2, vb a0_r.bad]] (fun v D' G' => ∃ (A11 : Option Addr) (c12 : Nat) (A13 : Option Addr) (c14 : Nat), v = (.slice A11 r.1.length c12) ∧ D' = [Sl E8 A13 c14 r.2.b, Sl E8 A11 c12 r.1] ∧ G' = [At a0_rp 0 [.slice A13 r.2.b.length c14, vb r.2.bad]]) := by
  unfold field_Reader_take at H
  refine fn_of Tryz.func170 rfl Tryz.ntmps170 rfl ?_
  intro w0 D0 G0
  dsimp only [app, initEnv, Nat.zero_add, Nat.reduceAdd]
  refine s_seq ?_
  refine s_reg [0] rfl ?_
  refine o_run ft [0] rfl rfl ?_
  refine o_nil ?_
  refine q_then ?_
  refine s_seq ?_
  refine s_seq ?_
  refine s_reg [0, 1, 2, 3, 4, 5, 6, 7] rfl ?_
  refine o_run ft [0] rfl rfl ?_
  refine o_pu rfl (ev_bin rfl rfl rfl rfl (eql_ptr_pn Tryz.runUnderlying163)) (g0 rfl) rfl rfl ?_
  refine o_run ft [2, 3, 4, 5] rfl rfl ?_
  refine o_ld (hG 0 rfl) rfl (ev_ld1 (j := 1) rfl rfl Tryz.isAgg4 (sub_nth (j := 1) rfl) rfl) (g1 rfl rfl rfl rfl) rfl rfl ?_
  refine o_run ft [7] rfl rfl ?_
  refine o_nil ?_
  refine q_then ?_
  refine s_cond rfl ?_ ?_
  · intro hb3
    have H := cnd_t H hb3
    refine s_seq ?_
    refine s_reg [0] rfl ?_
    refine o_run ft [0] rfl rfl ?_
    refine o_nil ?_
    refine q_then ?_
    refine s_ret ?_
    refine q_then_r ?_
    cases H
    refine k_nil_sl E8 ?_
    exact q_end (rs_1 Tryz.results170 (rv_tmp rfl)) ⟨none, 0, A1, c2, rfl, rfl, rfl⟩ [1, 0] rfl 2 rfl [0] rfl 0 rfl
  · intro hb3
    have H := cnd_f H hb3
    refine s_skip ?_
    refine q_then ?_
    refine s_seq ?_
    refine s_seq ?_
    refine s_reg [0, 1, 2, 3, 4, 5, 6] rfl ?_
    refine o_run ft [0, 1, 2, 3] rfl rfl ?_
    refine o_ld (hG 0 rfl) rfl (ev_ld1 (j := 0) rfl rfl Tryz.isAgg22 (sub_nth (j := 0) rfl) rfl) (g0 rfl) rfl rfl ?_
    refine o_pu rfl (ev_len_slice rfl rfl Tryz.runUnderlying22) (g0 rfl) rfl rfl ?_
    refine o_run ft [6] rfl rfl ?_
    refine o_nil ?_
    refine q_then ?_
    refine s_cond rfl ?_ ?_
    · intro hb4
      have H := cnd_t H hb4
      refine s_seq ?_
      refine s_reg [0, 1, 2, 3, 4, 5, 6, 7] rfl ?_
      refine o_run ft [0, 1, 2, 3] rfl rfl ?_
      refine oc (k_st (j := 0) rfl rfl rfl rfl (vs := [.slice none 0 0]) rfl (sz rfl Tryz.sizeOf22) rfl 0 rfl (spl_lit (j := 0) (cs' := [.slice none 0 0, vb a0_r.bad]) rfl rfl) rfl (g0 rfl) rfl ?_)
      refine o_run ft [5, 6] rfl rfl ?_
      refine oc (k_st (j := 1) rfl rfl rfl rfl (vs := [vb true]) rfl (sz rfl Tryz.sizeOf4) rfl 0 rfl (spl_lit (j := 1) (cs' := [.slice none 0 0, vb true]) rfl rfl) rfl (g0 rfl) rfl ?_)
      refine o_nil ?_
      refine q_then ?_
      refine s_seq ?_
      refine s_reg [0] rfl ?_
      refine o_run ft [0] rfl rfl ?_
      refine o_nil ?_
      refine q_then ?_
      refine s_ret ?_
      refine q_then_r ?_
      cases H
      refine k_nil_sl E8 ?_
      exact q_end (rs_1 Tryz.results170 (rv_tmp rfl)) ⟨none, 0, none, 0, rfl, rfl, rfl⟩ [0, 0] rfl 2 rfl [0] rfl 0 rfl
    · intro hb4
      have H := cnd_f H hb4
      refine s_skip ?_
      refine q_then ?_
      refine s_seq ?_
      refine s_reg [0, 1, 2, 3, 4, 5, 6] rfl ?_
      refine o_run ft [0, 1, 2] rfl rfl ?_
      refine o_ld (hG 0 rfl) rfl (ev_ld1 (j := 0) rfl rfl Tryz.isAgg22 (sub_nth (j := 0) rfl) rfl) (g0 rfl) rfl rfl ?_
      refine o_run ft [4] rfl rfl ?_
      obtain ⟨hk7, H⟩ := chk_some H
      refine oc (k_slice (ka := .i64) (a := (0 : Int)) (b := a1_n) 0 rfl rfl rfl rfl E8_len Tryz.runUnderlying22 Tryz.sizeOf5 (.inl ⟨rfl, rfl⟩) (.inr rfl) hk7 (g0 rfl) rfl rfl ?_)
      intro A5 c6
      refine o_run ft [6] rfl rfl ?_
      refine o_nil ?_
      refine q_then ?_
      refine s_seq ?_
      refine s_reg [0, 1, 2, 3, 4, 5, 6, 7, 8, 9] rfl ?_
      refine o_run ft [0, 1, 2, 3] rfl rfl ?_
      refine o_ld (hG 0 rfl) rfl (ev_ld1 (j := 0) rfl rfl Tryz.isAgg22 (sub_nth (j := 0) rfl) rfl) (g0 rfl) rfl rfl ?_
      refine o_run ft [5] rfl rfl ?_
      obtain ⟨hk10, H⟩ := chk_some H
      refine oc (k_slice (kb := .i64) (a := a1_n) (b := (a0_r.b.length : Int)) 1 rfl rfl rfl rfl E8_len Tryz.runUnderlying22 Tryz.sizeOf5 (.inr rfl) (.inl ⟨rfl, rfl⟩) hk10 (g0 rfl) rfl rfl ?_)
      intro A8 c9
      refine o_run ft [7, 8] rfl rfl ?_
      refine oc (k_st (j := 0) rfl rfl rfl rfl (vs := [.slice A8 (slc a0_r.b a1_n (a0_r.b.length : Int)).length c9]) rfl (sz rfl Tryz.sizeOf22) rfl 0 rfl (spl_lit (j := 0) (cs' := [.slice A8 (slc a0_r.b a1_n (a0_r.b.length : Int)).length c9, vb a0_r.bad]) rfl rfl) rfl (g0 rfl) rfl ?_)
      refine o_nil ?_
      refine q_then ?_
      refine s_seq ?_
      refine s_reg [0, 1] rfl ?_
      refine o_run ft [0, 1] rfl rfl ?_
      refine o_nil ?_
      refine q_then ?_
      refine s_ret ?_
      cases H
      exact q_end (rs_1 Tryz.results170 (rv_tmp rfl)) ⟨A5, c6, A8, c9, rfl, rfl, rfl⟩ [0, 1] rfl 3 rfl [0] rfl 0 rfl

def field_Reader_Raw (a0_r : ReaderS) (a1_size : Int) : Option ((List UInt8) × ReaderS) :=
bnd (if 0 < (if 1000 < a1_size then 1000 else a1_size) then (if 1000 < a1_size then 1000 else a1_size) else 0) fun x3 =>
(field_Reader_take (⟨a0_r.b, a0_r.bad⟩ : ReaderS) x3).bind fun r5 =>
(slices_Clone r5.1).bind fun r11 =>
some (r11, (⟨r5.2.b, r5.2.bad⟩ : ReaderS))

theorem c_field_Reader_Raw (a0_rp : Nat) (a0_r : ReaderS) (A1 : Option Addr) (c2 : Nat) (a1_size : Int) (r : (List UInt8) × ReaderS) (H : field_Reader_Raw a0_r a1_size = some r) : Fn Tryz.prog 171 [(.pointer (some ⟨a0_rp, 0, none⟩)), (vi a1_size)] [Sl E8 A1 c2 a0_r.b] [At a0_rp 0 [.slice A1 a0_r.b.length c2, vb a0_r.bad]] (fun v D' G' => ∃ (A15 : Option Addr) (c16 : Nat) (A17 : Option Addr) (c18 : Nat), v = (.slice A15 r.1.length c16) ∧ D' = [Sl E8 A17 c18 r.2.b, Sl E8 A15 c16 r.1] ∧ G' = [Spare A15 r.1.length c16 1, At a0_rp 0 [.slice A17 r.2.b.length c18, vb r.2.bad]]) := by
  unfold field_Reader_Raw at H
  refine fn_of Tryz.func171 rfl Tryz.ntmps171 rfl ?_
  intro w0 D0 G0
  dsimp only [app, initEnv, Nat.zero_add, Nat.reduceAdd]
  refine s_seq ?_
  refine s_reg [0] rfl ?_
  refine o_run ft [0] rfl rfl ?_
  refine o_nil ?_
  refine q_then ?_
  refine s_seq ?_
  refine s_reg [0, 1, 2, 3, 4, 5, 6] rfl ?_
  refine o_run ft [0, 1] rfl rfl ?_
  refine o_pu rfl (ev_min rfl rfl rfl) (g0 rfl) rfl rfl ?_
  refine o_pu rfl (ev_max rfl rfl rfl) (g0 rfl) rfl rfl ?_
  obtain ⟨x3, hx4⟩ : ∃ x : Int, x = (if 0 < (if 1000 < a1_size then 1000 else a1_size) then (if 1000 < a1_size then 1000 else a1_size) else 0) := ⟨_, rfl⟩
  have H := bnd_eq H hx4
  refine k_eq (v' := vi x3) 8 rfl (by rw [hx4]) ?_
  obtain ⟨r5, Hc6, H⟩ := bind_some' H
  refine oc (k_call (c_field_Reader_take a0_rp (⟨a0_r.b, a0_r.bad⟩ : ReaderS) A1 c2 x3 r5 Hc6) Tryz.call170 rfl rfl rfl [0] [0] rfl rfl (g0 rfl) rfl rfl ?_)
  rintro _ _ _ ⟨A7, c8, A9, c10, rfl, rfl, rfl⟩
  dsimp only [app]
  obtain ⟨r11, Hc12, H⟩ := bind_some' H
  refine oc (k_call (c_slices_Clone r5.1 A7 c8 r11 Hc12) Tryz.call57 rfl rfl rfl [1] [] rfl rfl (g0 rfl) rfl rfl ?_)
  rintro _ _ _ ⟨A13, c14, rfl, rfl, rfl⟩
  dsimp only [app]
  refine o_run ft [6] rfl rfl ?_
  refine o_nil ?_
  refine q_then ?_
  refine s_ret ?_
  cases H
  exact q_end (rs_1 Tryz.results171 (rv_tmp rfl)) ⟨A13, c14, A9, c10, rfl, rfl, rfl⟩ [1, 0] rfl 4 rfl [0, 0] rfl 0 rfl

def field_Reader_Left (a0_r : ReaderS) : Option Int :=
some (a0_r.b.length : Int)

theorem c_field_Reader_Left (a0_rp : Nat) (a0_r : ReaderS) (A1 : Option Addr) (c2 : Nat) (r : Int) (H : field_Reader_Left a0_r = some r) : Fn Tryz.prog 172 [(.pointer (some ⟨a0_rp, 0, none⟩))] [Sl E8 A1 c2 a0_r.b] [At a0_rp 0 [.slice A1 a0_r.b.length c2, vb a0_r.bad]] (fun v D' G' => v = (vi r) ∧ D' = [] ∧ G' = [At a0_rp 0 [.slice A1 a0_r.b.length c2, vb a0_r.bad]]) := by
  unfold field_Reader_Left at H
  refine fn_of Tryz.func172 rfl Tryz.ntmps172 rfl ?_
  intro w0 D0 G0
  dsimp only [app, initEnv, Nat.zero_add, Nat.reduceAdd]
  refine s_seq ?_
  refine s_reg [0] rfl ?_
  refine o_run ft [0] rfl rfl ?_
  refine o_nil ?_
  refine q_then ?_
  refine s_seq ?_
  refine s_seq ?_
  refine s_reg [0, 1] rfl ?_
  refine o_run ft [0] rfl rfl ?_
  refine o_pu rfl (ev_bin rfl rfl rfl rfl (eql_ptr_pn Tryz.runUnderlying163)) (g0 rfl) rfl rfl ?_
  refine o_nil ?_
  refine q_then ?_
  refine s_cond_f rfl ?_
  refine s_skip ?_
  refine q_then ?_
  refine s_seq ?_
  refine s_reg [0, 1, 2, 3, 4, 5] rfl ?_
  refine o_run ft [0, 1, 2] rfl rfl ?_
  refine o_ld (hG 0 rfl) rfl (ev_ld1 (j := 0) rfl rfl Tryz.isAgg22 (sub_nth (j := 0) rfl) rfl) (g0 rfl) rfl rfl ?_
  refine o_pu rfl (ev_len_slice rfl rfl Tryz.runUnderlying22) (g0 rfl) rfl rfl ?_
  refine o_run ft [5] rfl rfl ?_
  refine o_nil ?_
  refine q_then ?_
  refine s_ret ?_
  cases H
  exact q_end (rs_1 Tryz.results172 (rv_tmp rfl)) ⟨rfl, rfl, rfl⟩ [] rfl 1 rfl [0] rfl 0 rfl

def meta_behind_1 (a0_c : UInt8) : Option Bool :=
some ((a0_c : UInt8) != (0 : UInt8))

theorem c_meta_behind_1 (a0_c : UInt8) (r : Bool) (H : meta_behind_1 a0_c = some r) : Fn Tryz.prog 174 [(v8 a0_c)] [] [] (fun v D' G' => v = (vb r) ∧ D' = [] ∧ G' = []) := by
  unfold meta_behind_1 at H
  refine fn_of Tryz.func174 rfl Tryz.ntmps174 rfl ?_
  intro w0 D0 G0
  dsimp only [app, initEnv, Nat.zero_add, Nat.reduceAdd]
  refine s_seq ?_
  refine s_reg [0] rfl ?_
  refine o_run ft [0] rfl rfl ?_
  refine o_nil ?_
  refine q_then ?_
  refine s_seq ?_
  refine s_reg [0, 1, 2] rfl ?_
  refine o_run ft [0] rfl rfl ?_
  refine o_pu rfl (ev_bin rfl rfl rfl rfl (neq_8 _ 0)) (g0 rfl) rfl rfl ?_
  refine o_run ft [2] rfl rfl ?_
  refine o_nil ?_
  refine q_then ?_
  refine s_ret ?_
  cases H
  exact q_end (rs_1 Tryz.results174 (rv_tmp rfl)) ⟨rfl, rfl, rfl⟩ [] rfl 0 rfl [] rfl 0 rfl

def update_fails (a0_e : Int) : Option ChangeS :=
some (⟨MetaS.zero, (⟨a0_e, 0, 0⟩ : RespS)⟩ : ChangeS)

theorem c_update_fails (a0_e : Int) (r : ChangeS) (H : update_fails a0_e = some r) : Fn Tryz.prog 184 [(vi a0_e)] [] [] (fun v D' G' => v = (.agg (ChangeS.cells r).toArray) ∧ D' = [] ∧ G' = []) := by
  unfold update_fails at H
  refine fn_of Tryz.func184 rfl Tryz.ntmps184 rfl ?_
  intro w0 D0 G0
  dsimp only [app, initEnv, Nat.zero_add, Nat.reduceAdd]
  refine s_seq ?_
  refine s_reg [0] rfl ?_
  refine oc (k_alloc rfl rfl Tryz.zeroValue170 (cs := ChangeS.cells ChangeS.zero) rfl (g0 rfl) rfl rfl ?_)
  intro b1
  refine o_nil ?_
  refine q_then ?_
  refine s_seq ?_
  refine s_reg [0, 1, 2, 3] rfl ?_
  refine o_run ft [0] rfl rfl ?_
  refine o_pu rfl (ev_build (cs := RespS.cells (⟨a0_e, 0, 0⟩ : RespS)) rfl rfl Tryz.zeroValue40 Tryz.runUnderlying40 pl40 (show Instr.fill _ (RespS.cells RespS.zero : List Value).toArray _ = some _ from (fill_cons rfl (s := [vi a0_e]) rfl rfl (RespS.set_Err _ a0_e) fill_nil))) (g0 rfl) rfl rfl ?_
  refine o_pu rfl (ev_build (cs := ChangeS.cells (⟨MetaS.zero, (⟨a0_e, 0, 0⟩ : RespS)⟩ : ChangeS)) rfl rfl Tryz.zeroValue170 Tryz.runUnderlying170 pl170 (show Instr.fill _ (ChangeS.cells ChangeS.zero : List Value).toArray _ = some _ from (fill_cons rfl (s := RespS.cells (⟨a0_e, 0, 0⟩ : RespS)) rfl (RespS.len _) (ChangeS.set_r _ (⟨a0_e, 0, 0⟩ : RespS)) fill_nil))) (g0 rfl) rfl rfl ?_
  refine oc (k_st (j := 0) rfl rfl rfl rfl (vs := ChangeS.cells (⟨MetaS.zero, (⟨a0_e, 0, 0⟩ : RespS)⟩ : ChangeS)) rfl (sz (ChangeS.len _) Tryz.sizeOf170) (ChangeS.sc _) 0 rfl (spl_all ((ChangeS.len _).trans (ChangeS.len _).symm)) rfl (g0 rfl) rfl ?_)
  refine o_nil ?_
  refine q_then ?_
  refine s_ret ?_
  cases H
  exact q_end (rs_1 Tryz.results184 (rv_cell (j := 0) rfl (hG 0 rfl) Tryz.isAgg170 (sz (ChangeS.len _) Tryz.sizeOf170) (sub_all _) rfl)) ⟨rfl, rfl, rfl⟩ [] rfl 0 rfl [] rfl 1 rfl

def manifest_number (a0_n : Int) : Option Bool :=
bnd (decide (a0_n ≥ 1)) fun b1 =>
jn (fun x4 =>
some x4) fun J3 =>
bif b1 then (
J3 (decide (a0_n ≤ 1073741824))) else
J3 false

theorem c_manifest_number (a0_n : Int) (r : Bool) (H : manifest_number a0_n = some r) : Fn Tryz.prog 186 [(vi a0_n)] [] [] (fun v D' G' => v = (vb r) ∧ D' = [] ∧ G' = []) := by
  unfold manifest_number at H
  refine fn_of Tryz.func186 rfl Tryz.ntmps186 rfl ?_
  intro w0 D0 G0
  dsimp only [app, initEnv, Nat.zero_add, Nat.reduceAdd]
  refine s_seq ?_
  refine s_reg [0] rfl ?_
  refine o_run ft [0] rfl rfl ?_
  refine o_nil ?_
  refine q_then ?_
  refine s_seq ?_
  refine s_reg [0, 1, 2, 3, 4, 5, 6] rfl ?_
  refine o_run ft [0, 1, 2] rfl rfl ?_
  refine k_name 5 rfl ?_
  intro b1 hb2
  have H := bnd_eq H hb2
  refine o_jb 8 [6] [0, 2, 3, 4, 5] H rfl ?_ ?_
  · intro x4 H
    refine o_run ft [6] rfl rfl ?_
    refine o_nil ?_
    refine q_then ?_
    refine s_ret ?_
    cases H
    exact q_end (rs_1 Tryz.results186 (rv_tmp rfl)) ⟨rfl, rfl, rfl⟩ [] rfl 0 rfl [] rfl 0 rfl
  · intro J3 J3h H
    cases b1 with
    | true =>
      rw [cond_true] at H
      refine o_run ft [3, 4, 5] rfl rfl ?_
      exact k_wk (J3h (decide (a0_n ≤ 1073741824)) H) [8, 0, 2, 3, 4, 5] [] 0 [] 0 rfl rfl rfl
    | false =>
      rw [cond_false] at H
      refine o_gnot rfl rfl rfl rfl rfl rfl rfl rfl ?_
      refine o_gnot rfl rfl rfl rfl rfl rfl rfl rfl ?_
      refine o_run ft [5] rfl rfl ?_
      exact k_wk (J3h false H) [8, 0, 2, 3, 4, 5] [] 0 [] 0 rfl rfl rfl

def hmac_Same_l0 (a0_a : List UInt8) (a1_b : List UInt8) (J6 : UInt8 → Option Bool) : Nat → (UInt8 × Int) → Option Bool
  | 0, _ => none
  | k9 + 1, s9 =>
    bif (decide (s9.2 < (a0_a.length : Int))) then (
    chk (0 ≤ s9.2 ∧ s9.2 < a0_a.length) <|
    chk (0 ≤ s9.2 ∧ s9.2 < a1_b.length) <|
    hmac_Same_l0 a0_a a1_b J6 k9 ((s9.1 ||| ((at' 0 a0_a s9.2) ^^^ (at' 0 a1_b s9.2))), (wrap64 (s9.2 + 1)))) else (
    J6 s9.1)

def hmac_Same (a0_a : List UInt8) (a1_b : List UInt8) : Option Bool :=
bif ((a0_a.length : Int) != (a1_b.length : Int)) then (
some false) else (
jn (fun (x7 : UInt8) =>
some ((x7 : UInt8) == (0 : UInt8))) fun J6 =>
hmac_Same_l0 a0_a a1_b J6 Fuel (0, 0))

theorem c_hmac_Same (a0_a : List UInt8) (A1 : Option Addr) (c2 : Nat) (a1_b : List UInt8) (A3 : Option Addr) (c4 : Nat) (r : Bool) (H : hmac_Same a0_a a1_b = some r) : Fn Tryz.prog 188 [(.slice A1 a0_a.length c2), (.slice A3 a1_b.length c4)] [Sl E8 A3 c4 a1_b, Sl E8 A1 c2 a0_a] [] (fun v D' G' => v = (vb r) ∧ D' = [] ∧ G' = []) := by
  unfold hmac_Same at H
  refine fn_of Tryz.func188 rfl Tryz.ntmps188 rfl ?_
  intro w0 D0 G0
  dsimp only [app, initEnv, Nat.zero_add, Nat.reduceAdd]
  refine s_seq ?_
  refine s_reg [0] rfl ?_
  refine o_run ft [0] rfl rfl ?_
  refine o_nil ?_
  refine q_then ?_
  refine s_seq ?_
  refine s_seq ?_
  refine s_reg [0, 1, 2, 3, 4] rfl ?_
  refine o_run ft [0] rfl rfl ?_
  refine o_pu rfl (ev_len_slice rfl rfl Tryz.runUnderlying22) (g0 rfl) rfl rfl ?_
  refine o_run ft [2] rfl rfl ?_
  refine o_pu rfl (ev_len_slice rfl rfl Tryz.runUnderlying22) (g0 rfl) rfl rfl ?_
  refine o_run ft [4] rfl rfl ?_
  refine o_nil ?_
  refine q_then ?_
  refine s_cond rfl ?_ ?_
  · intro hb5
    have H := cnd_t H hb5
    refine s_seq ?_
    refine s_reg [0] rfl ?_
    refine o_run ft [0] rfl rfl ?_
    refine o_nil ?_
    refine q_then ?_
    refine s_ret ?_
    refine q_then_r ?_
    cases H
    exact q_end (rs_1 Tryz.results188 (rv_tmp rfl)) ⟨rfl, rfl, rfl⟩ [] rfl 2 rfl [] rfl 0 rfl
  · intro hb5
    have H := cnd_f H hb5
    refine s_skip ?_
    refine q_then ?_
    refine s_seq ?_
    refine s_reg [0] rfl ?_
    refine o_run ft [0] rfl rfl ?_
    refine o_nil ?_
    refine q_then ?_
    refine s_seq ?_
    refine s_seq ?_
    refine s_reg [0, 1, 2] rfl ?_
    refine o_run ft [0] rfl rfl ?_
    refine o_pu rfl (ev_len_slice rfl rfl Tryz.runUnderlying22) (g0 rfl) rfl rfl ?_
    refine o_run ft [2] rfl rfl ?_
    refine o_nil ?_
    refine q_then ?_
    refine q_join (fun (x7 : UInt8) (y8 : Unit) => ⟨Sl E8 A3 c4 a1_b :: Sl E8 A1 c2 a0_a :: D0, G0, [(5, (v8 x7))]⟩) H ?_ ?_
    · intro x7 y8 H
      dsimp only
      refine q_then ?_
      refine s_seq ?_
      refine s_reg [0, 1, 2] rfl ?_
      refine o_run ft [0] rfl rfl ?_
      refine o_pu rfl (ev_bin rfl rfl rfl rfl (eql_8 _ 0)) (g0 rfl) rfl rfl ?_
      refine o_run ft [2] rfl rfl ?_
      refine o_nil ?_
      refine q_then ?_
      refine s_ret ?_
      cases H
      exact q_end (rs_1 Tryz.results188 (rv_tmp rfl)) ⟨rfl, rfl, rfl⟩ [] rfl 2 rfl [] rfl 0 rfl
    · intro J6 J6h H
      refine s_block ?_
      refine s_loop (k_wk (loop_ind (fun (s9 : UInt8 × Int) (y9 : Unit) => ⟨Sl E8 A3 c4 a1_b :: Sl E8 A1 c2 a0_a :: D0, G0, [(0, (.slice A1 a0_a.length c2)), (1, (.slice A3 a1_b.length c4)), (5, (v8 s9.1)), (13, (vi (a0_a.length : Int))), (14, (vi s9.2))]⟩) (hmac_Same_l0 a0_a a1_b J6) _ (fun _ => rfl) ?_ Fuel (0, 0) () H) [0, 1, 5, 13, 14] [0, 1] 2 [] 0 rfl rfl rfl)
      intro k9 s9 y9 ih H
      dsimp only
      rw [hmac_Same_l0] at H
      refine s_seq ?_
      refine s_reg [0] rfl ?_
      refine o_run ft [0] rfl rfl ?_
      refine o_nil ?_
      refine q_then ?_
      refine s_seq ?_
      refine s_cond rfl ?_ ?_
      · intro hb10
        have H := cnd_t H hb10
        refine s_skip ?_
        refine q_then ?_
        refine s_seq ?_
        refine s_block ?_
        refine s_seq ?_
        refine s_reg [0, 1] rfl ?_
        refine o_run ft [0, 1] rfl rfl ?_
        refine o_nil ?_
        refine q_then ?_
        obtain ⟨hk15, H⟩ := chk_some H
        refine k_elem (k := s9.2) 0 1 rfl E8_len rfl hk15 ?_
        intro b11 p12 q13 hA14
        obtain ⟨hk20, H⟩ := chk_some H
        refine k_elem (k := s9.2) 0 1 rfl E8_len rfl hk20 ?_
        intro b16 p17 q18 hA19
        refine s_draw mixed [(4, [], Has b11 q13 [v8 (at' 0 a0_a s9.2)]), (8, [], Has b16 q18 [v8 (at' 0 a1_b s9.2)])] ?_
        refine a_run ft [0, 1, 2] rfl (fun _ _ _ _ _ h => h) (by kernel_rfl) rfl ?_
        refine a_p1 3 (by kernel_rfl) rfl (ev_idx_sl rfl rfl rfl Tryz.runUnderlying22 Tryz.sizeOf5 hk15 hA14) (fun _ _ _ h => h) (g0 rfl) rfl rfl ?_
        refine a_l1 4 0 rfl (by kernel_rfl) rfl (ev_ld1 (j := 0) rfl rfl Tryz.isAgg5 (sub_nth (j := 0) rfl) rfl) (fun _ _ _ h => h) (g0 rfl) rfl rfl ?_
        refine a_run ft [5, 6] rfl (fun _ _ _ _ _ h => h) (by kernel_rfl) rfl ?_
        refine a_p1 7 (by kernel_rfl) rfl (ev_idx_sl rfl rfl rfl Tryz.runUnderlying22 Tryz.sizeOf5 hk20 hA19) (fun _ _ _ h => h) (g0 rfl) rfl rfl ?_
        refine a_l1 8 1 rfl (by kernel_rfl) rfl (ev_ld1 (j := 0) rfl rfl Tryz.isAgg5 (sub_nth (j := 0) rfl) rfl) (fun _ _ _ h => h) (g0 rfl) rfl rfl ?_
        refine a_p1 9 (by kernel_rfl) rfl (ev_bin rfl rfl rfl rfl (xor_8 _ _)) (fun _ _ _ h => h) (g0 rfl) rfl rfl ?_
        refine a_p1 10 (by kernel_rfl) rfl (ev_bin rfl rfl rfl rfl (or_8 _ _)) (fun _ _ _ h => h) (g0 rfl) rfl rfl ?_
        refine a_run ft [11] rfl (fun _ _ _ _ _ h => h) (by kernel_rfl) rfl ?_
        refine a_done (by kernel_rfl) (sl_cons (hD 1 rfl) (sl_cons (hD 0 rfl) sl_nil)) ?_
        refine q_block ?_
        refine q_then ?_
        refine s_reg [0, 1] rfl ?_
        refine o_run ft [0, 1] rfl rfl ?_
        refine o_nil ?_
        refine q_loop ?_
        exact k_wk (ih ((s9.1 ||| ((at' 0 a0_a s9.2) ^^^ (at' 0 a1_b s9.2))), (wrap64 (s9.2 + 1))) () H) [0, 1, 5, 13, 14] [2, 3] 4 [] 0 rfl rfl rfl
      · intro hb10
        have H := cnd_f H hb10
        refine s_exit ?_
        refine q_then_x ?_
        refine q_then_x ?_
        refine q_block_x ?_
        exact k_wk (J6h s9.1 () H) [5] [0, 1] 2 [] 0 rfl rfl rfl

def sha_constants : Option (Arr UInt32 64) :=
some (⟨[(1116352408 : UInt32), (1899447441 : UInt32), (3049323471 : UInt32), (3921009573 : UInt32), (961987163 : UInt32), (1508970993 : UInt32), (2453635748 : UInt32), (2870763221 : UInt32), (3624381080 : UInt32), (310598401 : UInt32), (607225278 : UInt32), (1426881987 : UInt32), (1925078388 : UInt32), (2162078206 : UInt32), (2614888103 : UInt32), (3248222580 : UInt32), (3835390401 : UInt32), (4022224774 : UInt32), (264347078 : UInt32), (604807628 : UInt32), (770255983 : UInt32), (1249150122 : UInt32), (1555081692 : UInt32), (1996064986 : UInt32), (2554220882 : UInt32), (2821834349 : UInt32), (2952996808 : UInt32), (3210313671 : UInt32), (3336571891 : UInt32), (3584528711 : UInt32), (113926993 : UInt32), (338241895 : UInt32), (666307205 : UInt32), (773529912 : UInt32), (1294757372 : UInt32), (1396182291 : UInt32), (1695183700 : UInt32), (1986661051 : UInt32), (2177026350 : UInt32), (2456956037 : UInt32), (2730485921 : UInt32), (2820302411 : UInt32), (3259730800 : UInt32), (3345764771 : UInt32), (3516065817 : UInt32), (3600352804 : UInt32), (4094571909 : UInt32), (275423344 : UInt32), (430227734 : UInt32), (506948616 : UInt32), (659060556 : UInt32), (883997877 : UInt32), (958139571 : UInt32), (1322822218 : UInt32), (1537002063 : UInt32), (1747873779 : UInt32), (1955562222 : UInt32), (2024104815 : UInt32), (2227730452 : UInt32), (2361852424 : UInt32), (2428436474 : UInt32), (2756734187 : UInt32), (3204031479 : UInt32), (3329325298 : UInt32)], rfl⟩ : Arr UInt32 64)

theorem c_sha_constants (r : (Arr UInt32 64)) (H : sha_constants  = some r) : Fn Tryz.prog 201 [] [] [] (fun v D' G' => v = (.agg (r.l.flatMap E32).toArray) ∧ D' = [] ∧ G' = []) := by
  unfold sha_constants at H
  refine fn_of Tryz.func201 rfl Tryz.ntmps201 rfl ?_
  intro w0 D0 G0
  dsimp only [app, initEnv, Nat.zero_add, Nat.reduceAdd]
  refine s_seq ?_
  refine s_reg [0] rfl ?_
  refine oc (k_alloc rfl rfl Tryz.zeroValue224 (cs := (Arr.zero 0 64 : Arr UInt32 64).l.flatMap E32) rfl (g0 rfl) rfl rfl ?_)
  intro b1
  refine o_nil ?_
  refine q_then ?_
  refine s_seq ?_
  refine s_reg [0, 1] rfl ?_
  refine o_pu rfl (ev_build_arr (f := E32) (a := (⟨[(1116352408 : UInt32), (1899447441 : UInt32), (3049323471 : UInt32), (3921009573 : UInt32), (961987163 : UInt32), (1508970993 : UInt32), (2453635748 : UInt32), (2870763221 : UInt32), (3624381080 : UInt32), (310598401 : UInt32), (607225278 : UInt32), (1426881987 : UInt32), (1925078388 : UInt32), (2162078206 : UInt32), (2614888103 : UInt32), (3248222580 : UInt32), (3835390401 : UInt32), (4022224774 : UInt32), (264347078 : UInt32), (604807628 : UInt32), (770255983 : UInt32), (1249150122 : UInt32), (1555081692 : UInt32), (1996064986 : UInt32), (2554220882 : UInt32), (2821834349 : UInt32), (2952996808 : UInt32), (3210313671 : UInt32), (3336571891 : UInt32), (3584528711 : UInt32), (113926993 : UInt32), (338241895 : UInt32), (666307205 : UInt32), (773529912 : UInt32), (1294757372 : UInt32), (1396182291 : UInt32), (1695183700 : UInt32), (1986661051 : UInt32), (2177026350 : UInt32), (2456956037 : UInt32), (2730485921 : UInt32), (2820302411 : UInt32), (3259730800 : UInt32), (3345764771 : UInt32), (3516065817 : UInt32), (3600352804 : UInt32), (4094571909 : UInt32), (275423344 : UInt32), (430227734 : UInt32), (506948616 : UInt32), (659060556 : UInt32), (883997877 : UInt32), (958139571 : UInt32), (1322822218 : UInt32), (1537002063 : UInt32), (1747873779 : UInt32), (1955562222 : UInt32), (2024104815 : UInt32), (2227730452 : UInt32), (2361852424 : UInt32), (2428436474 : UInt32), (2756734187 : UInt32), (3204031479 : UInt32), (3329325298 : UInt32)], rfl⟩ : Arr UInt32 64)) rfl rfl Tryz.zeroValue224 Tryz.runUnderlying224 Tryz.sizeOf141 (fill_all rfl rfl rfl rfl rfl)) (g0 rfl) rfl rfl ?_
  refine oc (k_st (j := 0) rfl rfl rfl rfl (vs := (⟨[(1116352408 : UInt32), (1899447441 : UInt32), (3049323471 : UInt32), (3921009573 : UInt32), (961987163 : UInt32), (1508970993 : UInt32), (2453635748 : UInt32), (2870763221 : UInt32), (3624381080 : UInt32), (310598401 : UInt32), (607225278 : UInt32), (1426881987 : UInt32), (1925078388 : UInt32), (2162078206 : UInt32), (2614888103 : UInt32), (3248222580 : UInt32), (3835390401 : UInt32), (4022224774 : UInt32), (264347078 : UInt32), (604807628 : UInt32), (770255983 : UInt32), (1249150122 : UInt32), (1555081692 : UInt32), (1996064986 : UInt32), (2554220882 : UInt32), (2821834349 : UInt32), (2952996808 : UInt32), (3210313671 : UInt32), (3336571891 : UInt32), (3584528711 : UInt32), (113926993 : UInt32), (338241895 : UInt32), (666307205 : UInt32), (773529912 : UInt32), (1294757372 : UInt32), (1396182291 : UInt32), (1695183700 : UInt32), (1986661051 : UInt32), (2177026350 : UInt32), (2456956037 : UInt32), (2730485921 : UInt32), (2820302411 : UInt32), (3259730800 : UInt32), (3345764771 : UInt32), (3516065817 : UInt32), (3600352804 : UInt32), (4094571909 : UInt32), (275423344 : UInt32), (430227734 : UInt32), (506948616 : UInt32), (659060556 : UInt32), (883997877 : UInt32), (958139571 : UInt32), (1322822218 : UInt32), (1537002063 : UInt32), (1747873779 : UInt32), (1955562222 : UInt32), (2024104815 : UInt32), (2227730452 : UInt32), (2361852424 : UInt32), (2428436474 : UInt32), (2756734187 : UInt32), (3204031479 : UInt32), (3329325298 : UInt32)], rfl⟩ : Arr UInt32 64).l.flatMap E32) rfl (sz (arr_len E32_len _ rfl) Tryz.sizeOf224) (arr_sc E32_one _) 0 rfl (spl_all ((arr_len E32_len _ rfl).trans (arr_len E32_len _ rfl).symm)) rfl (g0 rfl) rfl ?_)
  refine o_nil ?_
  refine q_then ?_
  refine s_ret ?_
  cases H
  exact q_end (rs_1 Tryz.results201 (rv_cell (j := 0) rfl (hG 0 rfl) Tryz.isAgg224 (sz (arr_len E32_len _ rfl) Tryz.sizeOf224) (sub_all _) rfl)) ⟨rfl, rfl, rfl⟩ [] rfl 0 rfl [] rfl 1 rfl

def nor_Flash_within (a0_f : FlashS) (a1_at : Int) (a2_n : Int) : Option Bool :=
(nor_Flash_Len a0_f).bind fun r1 =>
bnd (decide (a1_at ≥ 0)) fun b3 =>
jn (fun x6 =>
bnd x6 fun b7 =>
jn (fun x10 =>
some x10) fun J9 =>
bif b7 then (
J9 (decide (a2_n ≤ (wrap64 ((wrap64 (r1 * 320)) - a1_at))))) else
J9 false) fun J5 =>
bif b3 then (
J5 (decide (a1_at ≤ (wrap64 (r1 * 320))))) else
J5 false

theorem c_nor_Flash_within (a0_fp : Nat) (a0_f : FlashS) (a0_fg : FlashG) (a1_at : Int) (a2_n : Int) (r : Bool) (H : nor_Flash_within a0_f a1_at a2_n = some r) : Fn Tryz.prog 203 [(.pointer (some ⟨a0_fp, 0, none⟩)), (vi a1_at), (vi a2_n)] [] [FlashT a0_fg a0_fp a0_f] (fun v D' G' => v = (vb r) ∧ D' = [] ∧ G' = [FlashT a0_fg a0_fp a0_f]) := by
  unfold nor_Flash_within at H
  refine fn_of Tryz.func203 rfl Tryz.ntmps203 rfl ?_
  intro w0 D0 G0
  dsimp only [app, initEnv, Nat.zero_add, Nat.reduceAdd]
  refine s_seq ?_
  refine s_reg [0] rfl ?_
  refine o_run ft [0] rfl rfl ?_
  refine o_nil ?_
  refine q_then ?_
  refine s_seq ?_
  refine s_reg [0, 1, 2, 3] rfl ?_
  refine o_run ft [0] rfl rfl ?_
  obtain ⟨r1, Hc2, H⟩ := bind_some' H
  refine oc (k_call (c_nor_Flash_Len a0_fp a0_f a0_fg r1 Hc2) Tryz.call79 rfl rfl rfl [] [0] rfl rfl (g0 rfl) rfl rfl ?_)
  rintro _ _ _ ⟨rfl, rfl, rfl⟩
  dsimp only [app]
  refine o_run ft [2, 3] rfl rfl ?_
  refine o_nil ?_
  refine q_then ?_
  refine s_seq ?_
  refine s_reg [0, 1, 2, 3, 4, 5, 6, 7, 8, 9, 10, 11, 12, 13, 14] rfl ?_
  refine o_run ft [0, 1, 2] rfl rfl ?_
  refine k_name 13 rfl ?_
  intro b3 hb4
  have H := bnd_eq H hb4
  refine o_jb 17 [7, 8, 9, 10, 11, 12, 13, 14] [0, 1, 2, 6, 7, 8, 9, 10, 11, 12, 13] H rfl ?_ ?_
  · intro x6 H
    refine o_run ft [7] rfl rfl ?_
    refine k_name 18 rfl ?_
    intro b7 hb8
    have H := bnd_eq H hb8
    refine o_jb 24 [14] [0, 1, 2, 6, 7, 8, 9, 10, 11, 12, 13, 17, 18] H rfl ?_ ?_
    · intro x10 H
      refine o_run ft [14] rfl rfl ?_
      refine o_nil ?_
      refine q_then ?_
      refine s_ret ?_
      cases H
      exact q_end (rs_1 Tryz.results203 (rv_tmp rfl)) ⟨rfl, rfl, rfl⟩ [] rfl 0 rfl [0] rfl 0 rfl
    · intro J9 J9h H
      cases b7 with
      | true =>
        rw [cond_true] at H
        refine o_run ft [8, 9, 10, 11, 12, 13] rfl rfl ?_
        exact k_wk (J9h (decide (a2_n ≤ (wrap64 ((wrap64 (r1 * 320)) - a1_at)))) H) [24, 0, 1, 2, 6, 7, 8, 9, 10, 11, 12, 13, 17, 18] [] 0 [0] 0 rfl rfl rfl
      | false =>
        rw [cond_false] at H
        refine o_gnot rfl rfl rfl rfl rfl rfl rfl rfl ?_
        refine o_gnot rfl rfl rfl rfl rfl rfl rfl rfl ?_
        refine o_gnot rfl rfl rfl rfl rfl rfl rfl rfl ?_
        refine o_gnot rfl rfl rfl rfl rfl rfl rfl rfl ?_
        refine o_gnot rfl rfl rfl rfl rfl rfl rfl rfl ?_
        refine o_run ft [13] rfl rfl ?_
        exact k_wk (J9h false H) [24, 0, 1, 2, 6, 7, 8, 9, 10, 11, 12, 13, 17, 18] [] 0 [0] 0 rfl rfl rfl
  · intro J5 J5h H
    cases b3 with
    | true =>
      rw [cond_true] at H
      refine o_run ft [3, 4, 5, 6] rfl rfl ?_
      exact k_wk (J5h (decide (a1_at ≤ (wrap64 (r1 * 320)))) H) [17, 0, 1, 2, 6, 7, 8, 9, 10, 11, 12, 13] [] 0 [0] 0 rfl rfl rfl
    | false =>
      rw [cond_false] at H
      refine o_gnot rfl rfl rfl rfl rfl rfl rfl rfl ?_
      refine o_gnot rfl rfl rfl rfl rfl rfl rfl rfl ?_
      refine o_gnot rfl rfl rfl rfl rfl rfl rfl rfl ?_
      refine o_run ft [6] rfl rfl ?_
      exact k_wk (J5h false H) [17, 0, 1, 2, 6, 7, 8, 9, 10, 11, 12, 13] [] 0 [0] 0 rfl rfl rfl

def __nor_Flash__Blank_1 (a0_c : UInt8) : Option Bool :=
some ((a0_c : UInt8) != (255 : UInt8))

theorem c___nor_Flash__Blank_1 (a0_c : UInt8) (r : Bool) (H : __nor_Flash__Blank_1 a0_c = some r) : Fn Tryz.prog 205 [(v8 a0_c)] [] [] (fun v D' G' => v = (vb r) ∧ D' = [] ∧ G' = []) := by
  unfold __nor_Flash__Blank_1 at H
  refine fn_of Tryz.func205 rfl Tryz.ntmps205 rfl ?_
  intro w0 D0 G0
  dsimp only [app, initEnv, Nat.zero_add, Nat.reduceAdd]
  refine s_seq ?_
  refine s_reg [0] rfl ?_
  refine o_run ft [0] rfl rfl ?_
  refine o_nil ?_
  refine q_then ?_
  refine s_seq ?_
  refine s_reg [0, 1, 2] rfl ?_
  refine o_run ft [0] rfl rfl ?_
  refine o_pu rfl (ev_bin rfl rfl rfl rfl (neq_8 _ 255)) (g0 rfl) rfl rfl ?_
  refine o_run ft [2] rfl rfl ?_
  refine o_nil ?_
  refine q_then ?_
  refine s_ret ?_
  cases H
  exact q_end (rs_1 Tryz.results205 (rv_tmp rfl)) ⟨rfl, rfl, rfl⟩ [] rfl 0 rfl [] rfl 0 rfl

def unicode_utf8_RuneStart (a0_b : UInt8) : Option Bool :=
some (((a0_b &&& (192 : UInt8)) : UInt8) != (128 : UInt8))

theorem c_unicode_utf8_RuneStart (a0_b : UInt8) (r : Bool) (H : unicode_utf8_RuneStart a0_b = some r) : Fn Tryz.prog 231 [(v8 a0_b)] [] [] (fun v D' G' => v = (vb r) ∧ D' = [] ∧ G' = []) := by
  unfold unicode_utf8_RuneStart at H
  refine fn_of Tryz.func231 rfl Tryz.ntmps231 rfl ?_
  intro w0 D0 G0
  dsimp only [app, initEnv, Nat.zero_add, Nat.reduceAdd]
  refine s_seq ?_
  refine s_reg [0] rfl ?_
  refine o_run ft [0] rfl rfl ?_
  refine o_nil ?_
  refine q_then ?_
  refine s_seq ?_
  refine s_reg [0, 1, 2, 3] rfl ?_
  refine o_run ft [0] rfl rfl ?_
  refine o_pu rfl (ev_bin rfl rfl rfl rfl (and_8 _ 192)) (g0 rfl) rfl rfl ?_
  refine o_pu rfl (ev_bin rfl rfl rfl rfl (neq_8 _ 128)) (g0 rfl) rfl rfl ?_
  refine o_run ft [3] rfl rfl ?_
  refine o_nil ?_
  refine q_then ?_
  refine s_ret ?_
  cases H
  exact q_end (rs_1 Tryz.results231 (rv_tmp rfl)) ⟨rfl, rfl, rfl⟩ [] rfl 0 rfl [] rfl 0 rfl

end Go.Proofs.YtpdoioeckiiegaaGreatDoor.Wl
