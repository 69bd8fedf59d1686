import Derived.Test.YtphbbnlbfbhcaaaDoorWlW
import Derived.Test.YtphbbnlbfbhcaaaDoorWlX0
import Derived.Test.YtphbbnlbfbhcaaaDoorWlX1
set_option linter.unusedSimpArgs false
set_option linter.unusedVariables false
set_option maxRecDepth 10000
namespace Go.Proofs.YtphbbnlbfbhcaaaDoor.Wl
open Go.RowKit Go.Proofs
def strings_makeASCIISet_l0 (a0_chars : List UInt8) (J2 : (Arr Bool 256) → Option ((Arr Bool 256) × Bool)) : Nat → (Int × Arr Bool 256) → Option ((Arr Bool 256) × Bool)
  | 0, _ => none
  | k5 + 1, s5 =>
    bif (decide (s5.1 < (a0_chars.length : Int))) then (
    chk (0 ≤ s5.1 ∧ s5.1 < a0_chars.length) <|
    bif (decide ((128 : UInt8) ≤ ((at' 0 a0_chars s5.1) : UInt8))) then (
    some (s5.2, false)) else (
    chk (0 ≤ ((at' 0 a0_chars s5.1).toNat : Int) ∧ ((at' 0 a0_chars s5.1).toNat : Int) < 256) <|
    strings_makeASCIISet_l0 a0_chars J2 k5 ((wrap64 (s5.1 + 1)), (Arr.set s5.2 ((at' 0 a0_chars s5.1).toNat : Int) true)))) else (
    J2 s5.2)

def strings_makeASCIISet (a0_chars : List UInt8) : Option ((Arr Bool 256) × Bool) :=
jn (fun (x3 : Arr Bool 256) =>
some (x3, true)) fun J2 =>
strings_makeASCIISet_l0 a0_chars J2 Fuel (0, (Arr.zero false 256 : Arr Bool 256))

theorem c_strings_makeASCIISet (a0_chars : List UInt8) (r : (Arr Bool 256) × Bool) (H : strings_makeASCIISet a0_chars = some r) : Fn Tryd.prog 116 [(vs a0_chars)] [] [] (fun v D' G' => v = (.tuple #[(.agg (r.1.l.flatMap Eb).toArray), (vb r.2)]) ∧ D' = [] ∧ G' = []) := by
  unfold strings_makeASCIISet at H
  refine fn_of Tryd.func116 rfl Tryd.ntmps116 rfl ?_
  intro w0 D0 G0
  dsimp only [app, initEnv, Nat.zero_add, Nat.reduceAdd]
  refine s_seq ?_
  refine s_reg [0, 1] rfl ?_
  refine oc (k_alloc rfl rfl Tryd.zeroValue166 (cs := (Arr.zero false 256 : Arr Bool 256).l.flatMap Eb) rfl (g0 rfl) rfl rfl ?_)
  intro b1
  refine o_pu rfl (ev_assign rfl rfl) (g0 rfl) rfl rfl ?_
  refine o_nil ?_
  refine q_then ?_
  refine s_seq ?_
  refine s_seq ?_
  refine s_reg [0] rfl ?_
  refine o_pu rfl (ev_assign rfl rfl) (g0 rfl) rfl rfl ?_
  refine o_nil ?_
  refine q_then ?_
  refine q_join (fun (x3 : Arr Bool 256) (y4 : Unit) => ⟨D0, At b1 0 (x3.l.flatMap Eb) :: G0, [(2, (.pointer (some ⟨b1, 0, none⟩)))]⟩) H ?_ ?_
  · intro x3 y4 H
    dsimp only
    refine q_then ?_
    refine s_seq ?_
    refine s_reg [0, 1, 2] rfl ?_
    refine o_ld (hG 0 rfl) rfl (ev_ldN (j := 0) rfl rfl Tryd.isAgg166 (sz (arr_len Eb_len _ rfl) Tryd.sizeOf166) (sub_all _) rfl) (g0 rfl) rfl rfl ?_
    refine oc (k_st (j := 0) rfl rfl rfl rfl (vs := x3.l.flatMap Eb) rfl (sz (arr_len Eb_len _ rfl) Tryd.sizeOf166) (arr_sc Eb_one _) 0 rfl (spl_all ((arr_len Eb_len _ rfl).trans (arr_len Eb_len _ rfl).symm)) rfl (g0 rfl) rfl ?_)
    refine o_pu rfl (ev_assign rfl rfl) (g0 rfl) rfl rfl ?_
    refine o_nil ?_
    refine q_then ?_
    refine s_ret ?_
    cases H
    exact q_end (rs_2 Tryd.results116 (rv_cell (j := 0) rfl (hG 0 rfl) Tryd.isAgg166 (sz (arr_len Eb_len _ rfl) Tryd.sizeOf166) (sub_all _) rfl) (rv_tmp rfl)) ⟨rfl, rfl, rfl⟩ [] rfl 0 rfl [] rfl 1 rfl
  · intro J2 H
    refine s_block ?_
    refine s_loop (k_wk (loop_ind (fun (s5 : Int × Arr Bool 256) (y5 : Unit) => ⟨D0, At b1 0 (s5.2.l.flatMap Eb) :: G0, [(0, (vs a0_chars)), (2, (.pointer (some ⟨b1, 0, none⟩))), (4, (vi s5.1))]⟩) (strings_makeASCIISet_l0 a0_chars _) _ (fun _ => rfl) ?_ Fuel (0, (Arr.zero false 256 : Arr Bool 256)) () H) [0, 2, 4] [] 0 [0] 0 rfl rfl rfl)
    intro k5 s5 y5 ih H
    dsimp only
    rw [strings_makeASCIISet_l0] at H
    refine s_seq ?_
    refine s_seq ?_
    refine s_reg [0, 1, 2, 3] rfl ?_
    refine o_pu rfl (ev_move rfl rfl) (g0 rfl) rfl rfl ?_
    refine o_pu rfl (ev_move rfl rfl) (g0 rfl) rfl rfl ?_
    refine o_pu rfl (ev_len_string rfl rfl Tryd.runUnderlying9) (g0 rfl) rfl rfl ?_
    refine o_pu rfl (ev_bin rfl rfl rfl rfl (lss_i _ _)) (g0 rfl) rfl rfl ?_
    refine o_nil ?_
    refine q_then ?_
    refine s_cond rfl ?_ ?_
    · intro hb6
      have H := cnd_t H hb6
      refine s_skip ?_
      refine q_then ?_
      refine s_seq ?_
      refine s_block ?_
      refine s_seq ?_
      refine s_reg [0, 1, 2, 3] rfl ?_
      refine o_pu rfl (ev_move rfl rfl) (g0 rfl) rfl rfl ?_
      refine o_pu rfl (ev_move rfl rfl) (g0 rfl) rfl rfl ?_
      obtain ⟨hk7, H⟩ := chk_some H
      refine o_pu rfl (ev_index_string rfl rfl rfl Tryd.runUnderlying9 hk7) (g0 rfl) rfl rfl ?_
      refine o_pu rfl (ev_assign rfl rfl) (g0 rfl) rfl rfl ?_
      refine o_nil ?_
      refine q_then ?_
      refine s_seq ?_
      refine s_seq ?_
      refine s_reg [0, 1] rfl ?_
      refine o_pu rfl (ev_move rfl rfl) (g0 rfl) rfl rfl ?_
      refine o_pu rfl (ev_bin rfl rfl rfl rfl (geq_8 _ 128)) (g0 rfl) rfl rfl ?_
      refine o_nil ?_
      refine q_then ?_
      refine s_cond rfl ?_ ?_
      · intro hb8
        have H := cnd_t H hb8
        refine s_seq ?_
        refine s_reg [0, 1, 2] rfl ?_
        refine o_ld (hG 0 rfl) rfl (ev_ldN (j := 0) rfl rfl Tryd.isAgg166 (sz (arr_len Eb_len _ rfl) Tryd.sizeOf166) (sub_all _) rfl) (g0 rfl) rfl rfl ?_
        refine oc (k_st (j := 0) rfl rfl rfl rfl (vs := s5.2.l.flatMap Eb) rfl (sz (arr_len Eb_len _ rfl) Tryd.sizeOf166) (arr_sc Eb_one _) 0 rfl (spl_all ((arr_len Eb_len _ rfl).trans (arr_len Eb_len _ rfl).symm)) rfl (g0 rfl) rfl ?_)
        refine o_pu rfl (ev_assign rfl rfl) (g0 rfl) rfl rfl ?_
        refine o_nil ?_
        refine q_then ?_
        refine s_ret ?_
        refine q_then_r ?_
        refine q_block_r ?_
        refine q_then_r ?_
        refine q_then_r ?_
        refine q_block_r ?_
        refine q_then_r ?_
        cases H
        exact q_end (rs_2 Tryd.results116 (rv_cell (j := 0) rfl (hG 0 rfl) Tryd.isAgg166 (sz (arr_len Eb_len _ rfl) Tryd.sizeOf166) (sub_all _) rfl) (rv_tmp rfl)) ⟨rfl, rfl, rfl⟩ [] rfl 0 rfl [] rfl 1 rfl
      · intro hb8
        have H := cnd_f H hb8
        refine s_skip ?_
        refine q_then ?_
        refine s_reg [0, 1, 2] rfl ?_
        refine o_pu rfl (ev_move rfl rfl) (g0 rfl) rfl rfl ?_
        obtain ⟨hk9, H⟩ := chk_some H
        refine o_pu rfl (ev_idx_array rfl rfl rfl Tryd.runUnderlying166 Tryd.sizeOf4 hk9 rfl) (g0 rfl) rfl rfl ?_
        refine oc (k_st rfl rfl rfl rfl (vs := [vb true]) rfl (sz rfl Tryd.sizeOf4) rfl 0 rfl (spl_arr Eb_len _ (k := ((at' 0 a0_chars s5.1).toNat : Int)) _ hk9 rfl) (by omega) (g0 rfl) rfl ?_)
        refine o_nil ?_
        refine q_block ?_
        refine q_then ?_
        refine s_reg [0, 1, 2] rfl ?_
        refine o_pu rfl (ev_move rfl rfl) (g0 rfl) rfl rfl ?_
        refine o_pu rfl (ev_bin rfl rfl rfl rfl (add_i _ 1)) (g0 rfl) rfl rfl ?_
        refine o_pu rfl (ev_assign rfl rfl) (g0 rfl) rfl rfl ?_
        refine o_nil ?_
        refine q_loop ?_
        exact k_wk (ih ((wrap64 (s5.1 + 1)), (Arr.set s5.2 ((at' 0 a0_chars s5.1).toNat : Int) true)) () H) [0, 2, 4] [] 0 [0] 0 rfl rfl rfl
    · intro hb6
      have H := cnd_f H hb6
      refine s_exit ?_
      refine q_then_x ?_
      refine q_then_x ?_
      refine q_block_x ?_
      exact k_wk (J2 s5.2 () H) [2] [] 0 [0] 0 rfl rfl rfl

def turn_Big_l0 (a0_b : List UInt8) (J3 : UInt32 → Option UInt32) : Nat → (UInt32 × Int) → Option UInt32
  | 0, _ => none
  | k6 + 1, s6 =>
    bif (decide (s6.2 < 4)) then (
    jn (fun (x10 : UInt32) =>
    turn_Big_l0 a0_b J3 k6 (x10, (wrap64 (s6.2 + 1)))) fun J9 =>
    bif (decide (s6.2 < (a0_b.length : Int))) then (
    chk (0 ≤ s6.2 ∧ s6.2 < a0_b.length) <|
    J9 ((shl32 (s6.1 : UInt32) (8 : UInt64).toNat) ||| (at' 0 a0_b s6.2).toUInt32)) else (
    J9 (shl32 (s6.1 : UInt32) (8 : UInt64).toNat))) else (
    J3 s6.1)

def turn_Big (a0_b : List UInt8) : Option UInt32 :=
jn (fun (x4 : UInt32) =>
some x4) fun J3 =>
turn_Big_l0 a0_b J3 Fuel (0, 0)

theorem c_turn_Big (a0_b : List UInt8) (A1 : Option Addr) (c2 : Nat) (r : UInt32) (H : turn_Big a0_b = some r) : Fn Tryd.prog 124 [(.slice A1 a0_b.length c2)] [Sl E8 A1 c2 a0_b] [] (fun v D' G' => v = (v32 r) ∧ D' = [] ∧ G' = []) := by
  unfold turn_Big at H
  refine fn_of Tryd.func124 rfl Tryd.ntmps124 rfl ?_
  intro w0 D0 G0
  dsimp only [app, initEnv, Nat.zero_add, Nat.reduceAdd]
  refine s_seq ?_
  refine s_reg [0] rfl ?_
  refine o_pu rfl (ev_assign rfl rfl) (g0 rfl) rfl rfl ?_
  refine o_nil ?_
  refine q_then ?_
  refine s_seq ?_
  refine s_reg [0] rfl ?_
  refine o_pu rfl (ev_assign rfl rfl) (g0 rfl) rfl rfl ?_
  refine o_nil ?_
  refine q_then ?_
  refine s_seq ?_
  refine s_seq ?_
  refine s_reg [0] rfl ?_
  refine o_pu rfl (ev_move rfl rfl) (g0 rfl) rfl rfl ?_
  refine o_nil ?_
  refine q_then ?_
  refine q_join (fun (x4 : UInt32) (y5 : Unit) => ⟨Sl E8 A1 c2 a0_b :: D0, G0, [(3, (v32 x4))]⟩) H ?_ ?_
  · intro x4 y5 H
    dsimp only
    refine q_then ?_
    refine s_seq ?_
    refine s_reg [0, 1] rfl ?_
    refine o_pu rfl (ev_move rfl rfl) (g0 rfl) rfl rfl ?_
    refine o_pu rfl (ev_assign rfl rfl) (g0 rfl) rfl rfl ?_
    refine o_nil ?_
    refine q_then ?_
    refine s_ret ?_
    cases H
    exact q_end (rs_1 Tryd.results124 (rv_tmp rfl)) ⟨rfl, rfl, rfl⟩ [] rfl 1 rfl [] rfl 0 rfl
  · intro J3 H
    refine s_block ?_
    refine s_loop (k_wk (loop_ind (fun (s6 : UInt32 × Int) (y6 : Unit) => ⟨Sl E8 A1 c2 a0_b :: D0, G0, [(0, (.slice A1 a0_b.length c2)), (3, (v32 s6.1)), (5, (vi s6.2))]⟩) (turn_Big_l0 a0_b _) _ (fun _ => rfl) ?_ Fuel (0, 0) () H) [0, 3, 5] [0] 1 [] 0 rfl rfl rfl)
    intro k6 s6 y6 ih H
    dsimp only
    rw [turn_Big_l0] at H
    refine s_seq ?_
    refine s_reg [0] rfl ?_
    refine o_pu rfl (ev_bin rfl rfl rfl rfl (lss_i _ 4)) (g0 rfl) rfl rfl ?_
    refine o_nil ?_
    refine q_then ?_
    refine s_seq ?_
    refine s_cond rfl ?_ ?_
    · intro hb7
      have H := cnd_t H hb7
      refine s_skip ?_
      refine q_then ?_
      refine s_seq ?_
      refine s_block ?_
      refine s_seq ?_
      refine s_reg [0, 1] rfl ?_
      refine o_pu rfl (ev_move rfl rfl) (g0 rfl) rfl rfl ?_
      refine o_pu rfl (ev_assign rfl rfl) (g0 rfl) rfl rfl ?_
      refine o_nil ?_
      refine q_then ?_
      refine s_seq ?_
      refine s_reg [0, 1, 2] rfl ?_
      refine o_pu rfl (ev_move rfl rfl) (g0 rfl) rfl rfl ?_
      refine o_pu rfl (ev_bin rfl rfl rfl rfl (shl_32 _ 8)) (g0 rfl) rfl rfl ?_
      refine o_pu rfl (ev_assign rfl rfl) (g0 rfl) rfl rfl ?_
      refine o_nil ?_
      refine q_then ?_
      refine s_seq ?_
      refine s_reg [0, 1, 2, 3] rfl ?_
      refine o_pu rfl (ev_move rfl rfl) (g0 rfl) rfl rfl ?_
      refine o_pu rfl (ev_move rfl rfl) (g0 rfl) rfl rfl ?_
      refine o_pu rfl (ev_len_slice rfl rfl Tryd.runUnderlying32) (g0 rfl) rfl rfl ?_
      refine o_pu rfl (ev_bin rfl rfl rfl rfl (lss_i _ _)) (g0 rfl) rfl rfl ?_
      refine o_nil ?_
      refine q_then ?_
      refine q_join (fun (x10 : UInt32) (y11 : Unit) => ⟨Sl E8 A1 c2 a0_b :: D0, G0, [(0, (.slice A1 a0_b.length c2)), (3, (v32 x10)), (5, (vi s6.2))]⟩) H ?_ ?_
      · intro x10 y11 H
        dsimp only
        refine q_block ?_
        refine q_then ?_
        refine s_reg [0, 1] rfl ?_
        refine o_pu rfl (ev_bin rfl rfl rfl rfl (add_i _ 1)) (g0 rfl) rfl rfl ?_
        refine o_pu rfl (ev_move rfl rfl) (g0 rfl) rfl rfl ?_
        refine o_nil ?_
        refine q_loop ?_
        exact k_wk (ih (x10, (wrap64 (s6.2 + 1))) () H) [0, 3, 5] [0] 1 [] 0 rfl rfl rfl
      · intro J9 H
        refine s_cond rfl ?_ ?_
        · intro hb12
          have H := cnd_t H hb12
          refine s_reg [0, 1, 2, 3, 4, 5, 6, 7] rfl ?_
          refine o_pu rfl (ev_move rfl rfl) (g0 rfl) rfl rfl ?_
          refine o_pu rfl (ev_move rfl rfl) (g0 rfl) rfl rfl ?_
          refine o_pu rfl (ev_move rfl rfl) (g0 rfl) rfl rfl ?_
          obtain ⟨hk15, H⟩ := chk_some H
          refine oc (k_idx 0 0 rfl rfl rfl rfl rfl E8_len rfl Tryd.runUnderlying32 Tryd.sizeOf5 hk15 (g0 rfl) rfl rfl ?_)
          intro b13 q14
          refine o_ld (hD 0 rfl) rfl (ev_ld1 (j := 0) rfl rfl Tryd.isAgg5 (sub_nth (j := 0) rfl) rfl) (g0 rfl) rfl rfl ?_
          refine o_pu rfl (ev_conv rfl rfl (conv_u8_u32 _ Tryd.runUnderlying5 Tryd.runUnderlying124)) (g0 rfl) rfl rfl ?_
          refine o_pu rfl (ev_bin rfl rfl rfl rfl (or_32 _ _)) (g0 rfl) rfl rfl ?_
          refine o_pu rfl (ev_assign rfl rfl) (g0 rfl) rfl rfl ?_
          refine o_nil ?_
          exact k_wk (J9 ((shl32 (s6.1 : UInt32) (8 : UInt64).toNat) ||| (at' 0 a0_b s6.2).toUInt32) () H) [0, 3, 5] [1] 2 [] 0 rfl rfl rfl
        · intro hb12
          have H := cnd_f H hb12
          refine s_skip ?_
          exact k_wk (J9 (shl32 (s6.1 : UInt32) (8 : UInt64).toNat) () H) [0, 3, 5] [0] 1 [] 0 rfl rfl rfl
    · intro hb7
      have H := cnd_f H hb7
      refine s_exit ?_
      refine q_then_x ?_
      refine q_then_x ?_
      refine q_block_x ?_
      exact k_wk (J3 s6.1 () H) [3] [0] 1 [] 0 rfl rfl rfl

def math_bits_RotateLeft32 (a0_x : UInt32) (a1_k : Int) : Option UInt32 :=
some ((shl32 (a0_x : UInt32) (((UInt64.ofInt a1_k) &&& (31 : UInt64)) : UInt64).toNat) ||| (shr32 (a0_x : UInt32) (((32 : UInt64) - ((UInt64.ofInt a1_k) &&& (31 : UInt64))) : UInt64).toNat))

theorem c_math_bits_RotateLeft32 (a0_x : UInt32) (a1_k : Int) (r : UInt32) (H : math_bits_RotateLeft32 a0_x a1_k = some r) : Fn Tryd.prog 134 [(v32 a0_x), (vi a1_k)] [] [] (fun v D' G' => v = (v32 r) ∧ D' = [] ∧ G' = []) := by
  unfold math_bits_RotateLeft32 at H
  refine fn_of Tryd.func134 rfl Tryd.ntmps134 rfl ?_
  intro w0 D0 G0
  dsimp only [app, initEnv, Nat.zero_add, Nat.reduceAdd]
  refine s_seq ?_
  refine s_reg [0] rfl ?_
  refine o_pu rfl (ev_assign rfl rfl) (g0 rfl) rfl rfl ?_
  refine o_nil ?_
  refine q_then ?_
  refine s_seq ?_
  refine s_reg [0, 1, 2, 3] rfl ?_
  refine o_pu rfl (ev_move rfl rfl) (g0 rfl) rfl rfl ?_
  refine o_pu rfl (ev_conv rfl rfl (conv_i_u64 _ Tryd.runUnderlying3 Tryd.runUnderlying50)) (g0 rfl) rfl rfl ?_
  refine o_pu rfl (ev_bin rfl rfl rfl rfl (and_64 _ 31)) (g0 rfl) rfl rfl ?_
  refine o_pu rfl (ev_assign rfl rfl) (g0 rfl) rfl rfl ?_
  refine o_nil ?_
  refine q_then ?_
  refine s_seq ?_
  refine s_reg [0, 1, 2, 3, 4, 5, 6, 7, 8] rfl ?_
  refine o_pu rfl (ev_move rfl rfl) (g0 rfl) rfl rfl ?_
  refine o_pu rfl (ev_move rfl rfl) (g0 rfl) rfl rfl ?_
  refine o_pu rfl (ev_bin rfl rfl rfl rfl (shl_32 _ _)) (g0 rfl) rfl rfl ?_
  refine o_pu rfl (ev_move rfl rfl) (g0 rfl) rfl rfl ?_
  refine o_pu rfl (ev_move rfl rfl) (g0 rfl) rfl rfl ?_
  refine o_pu rfl (ev_bin rfl rfl rfl rfl (sub_64 32 _)) (g0 rfl) rfl rfl ?_
  refine o_pu rfl (ev_bin rfl rfl rfl rfl (shr_32 _ _)) (g0 rfl) rfl rfl ?_
  refine o_pu rfl (ev_bin rfl rfl rfl rfl (or_32 _ _)) (g0 rfl) rfl rfl ?_
  refine o_pu rfl (ev_assign rfl rfl) (g0 rfl) rfl rfl ?_
  refine o_nil ?_
  refine q_then ?_
  refine s_ret ?_
  cases H
  exact q_end (rs_1 Tryd.results134 (rv_tmp rfl)) ⟨rfl, rfl, rfl⟩ [] rfl 0 rfl [] rfl 0 rfl

def unicode_utf8_RuneStart (a0_b : UInt8) : Option Bool :=
some (((a0_b &&& (192 : UInt8)) : UInt8) != (128 : UInt8))

theorem c_unicode_utf8_RuneStart (a0_b : UInt8) (r : Bool) (H : unicode_utf8_RuneStart a0_b = some r) : Fn Tryd.prog 135 [(v8 a0_b)] [] [] (fun v D' G' => v = (vb r) ∧ D' = [] ∧ G' = []) := by
  unfold unicode_utf8_RuneStart at H
  refine fn_of Tryd.func135 rfl Tryd.ntmps135 rfl ?_
  intro w0 D0 G0
  dsimp only [app, initEnv, Nat.zero_add, Nat.reduceAdd]
  refine s_seq ?_
  refine s_reg [0] rfl ?_
  refine o_pu rfl (ev_assign rfl rfl) (g0 rfl) rfl rfl ?_
  refine o_nil ?_
  refine q_then ?_
  refine s_seq ?_
  refine s_reg [0, 1, 2, 3] rfl ?_
  refine o_pu rfl (ev_move rfl rfl) (g0 rfl) rfl rfl ?_
  refine o_pu rfl (ev_bin rfl rfl rfl rfl (and_8 _ 192)) (g0 rfl) rfl rfl ?_
  refine o_pu rfl (ev_bin rfl rfl rfl rfl (neq_8 _ 128)) (g0 rfl) rfl rfl ?_
  refine o_pu rfl (ev_assign rfl rfl) (g0 rfl) rfl rfl ?_
  refine o_nil ?_
  refine q_then ?_
  refine s_ret ?_
  cases H
  exact q_end (rs_1 Tryd.results135 (rv_tmp rfl)) ⟨rfl, rfl, rfl⟩ [] rfl 0 rfl [] rfl 0 rfl

def model_Model_Active (a0_m : ModelS) : Option (List UInt8) :=
chk (0 ≤ a0_m.m.Active ∧ a0_m.m.Active < 2) <|
(model_Model_image a0_m a0_m.m.Active ((at' Img.zero a0_m.m.Have.l a0_m.m.Active).Size)).bind fun r2 =>
some r2

theorem c_model_Model_Active (a0_mp : Nat) (a0_m : ModelS) (a0_mg : ModelG) (r : (List UInt8)) (H : model_Model_Active a0_m = some r) : Fn Tryd.prog 28 [(.pointer (some ⟨a0_mp, 0, none⟩))] [] [ModelT a0_mg a0_mp a0_m] (fun v D' G' => ∃ (A6 : Option Addr) (c7 : Nat), v = (.slice A6 r.length c7) ∧ D' = [Sl E8 A6 c7 r] ∧ G' = [Spare A6 r.length c7 1, ModelT a0_mg a0_mp a0_m]) := by
  unfold model_Model_Active at H
  refine fn_of Tryd.func28 rfl Tryd.ntmps28 rfl ?_
  intro w0 D0 G0
  dsimp only [app, initEnv, Nat.zero_add, Nat.reduceAdd]
  refine s_seq ?_
  refine s_reg [0] rfl ?_
  refine o_pu rfl (ev_assign rfl rfl) (g0 rfl) rfl rfl ?_
  refine o_nil ?_
  refine q_then ?_
  refine s_seq ?_
  refine s_seq ?_
  refine s_reg [0, 1] rfl ?_
  refine o_pu rfl (ev_move rfl rfl) (g0 rfl) rfl rfl ?_
  refine o_pu rfl (ev_bin rfl rfl rfl rfl (eql_ptr_pn Tryd.runUnderlying43)) (g0 rfl) rfl rfl ?_
  refine o_nil ?_
  refine q_then ?_
  refine s_cond_f rfl ?_
  refine s_skip ?_
  refine q_then ?_
  refine s_seq ?_
  refine k_unp 0 rfl ?_
  dsimp only [app, del]
  refine s_draw mixed [(5, [18], Has a0_mp 0 ([vs a0_m.c.Name, .slice a0_mg.A1 a0_m.c.Key.length a0_mg.c1, vi a0_m.c.Slot, vi a0_m.c.Budget, vi a0_m.c.Quota, vi a0_m.c.Rights, .slice a0_mg.A6 a0_m.c.First.length a0_mg.c6] ++ (MetaS.cells a0_m.m ++ ([.slice (some ⟨a0_mg.b8, 0, none⟩) a0_m.slots0.length a0_m.slots0.length, .slice (some ⟨a0_mg.b9, 0, none⟩) a0_m.slots1.length a0_m.slots1.length])))), (11, [], Has a0_mp 0 ([vs a0_m.c.Name, .slice a0_mg.A1 a0_m.c.Key.length a0_mg.c1, vi a0_m.c.Slot, vi a0_m.c.Budget, vi a0_m.c.Quota, vi a0_m.c.Rights, .slice a0_mg.A6 a0_m.c.First.length a0_mg.c6] ++ (MetaS.cells a0_m.m ++ ([.slice (some ⟨a0_mg.b8, 0, none⟩) a0_m.slots0.length a0_m.slots0.length, .slice (some ⟨a0_mg.b9, 0, none⟩) a0_m.slots1.length a0_m.slots1.length])))), (17, [18], Has a0_mp 0 ([vs a0_m.c.Name, .slice a0_mg.A1 a0_m.c.Key.length a0_mg.c1, vi a0_m.c.Slot, vi a0_m.c.Budget, vi a0_m.c.Quota, vi a0_m.c.Rights, .slice a0_mg.A6 a0_m.c.First.length a0_mg.c6] ++ (MetaS.cells a0_m.m ++ ([.slice (some ⟨a0_mg.b8, 0, none⟩) a0_m.slots0.length a0_m.slots0.length, .slice (some ⟨a0_mg.b9, 0, none⟩) a0_m.slots1.length a0_m.slots1.length]))))] ?_
  refine a_pu 0 rfl (ev_move rfl rfl) (by rfl) (by kernel_rfl) (by kernel_rfl) (by kernel_rfl) (fun _ _ _ h => h) (g0 rfl) rfl rfl ?_
  refine a_pu 1 rfl (ev_move rfl rfl) (by rfl) (by kernel_rfl) (by kernel_rfl) (by kernel_rfl) (fun _ _ _ h => h) (g0 rfl) rfl rfl ?_
  refine a_pu 2 rfl (ev_nilCheck rfl rfl) (by rfl) (by kernel_rfl) (by kernel_rfl) (by kernel_rfl) (fun _ _ _ h => h) (g0 rfl) rfl rfl ?_
  refine a_pu 3 rfl (ev_fieldAddr rfl rfl Tryd.runUnderlying77 rfl Tryd.sizeOf74 rfl rfl) (by rfl) (by kernel_rfl) (by kernel_rfl) (by kernel_rfl) (fun _ _ _ h => h) (g0 rfl) rfl rfl ?_
  refine a_pu 4 rfl (ev_fieldAddr rfl rfl Tryd.runUnderlying74 rfl Tryd.sizeOf3 rfl rfl) (by rfl) (by kernel_rfl) (by kernel_rfl) (by kernel_rfl) (fun _ _ _ h => h) (g0 rfl) rfl rfl ?_
  refine a_ld 5 0 rfl rfl (ev_ld1 (j := 7) rfl rfl Tryd.isAgg3 (sub_skip (n := 7) (sub_head (MetaS.sub_Active _)) rfl rfl) rfl) (by kernel_rfl) (by rfl) (by kernel_rfl) (by kernel_rfl) (by kernel_rfl) (by kernel_rfl) (fun _ _ _ h => h) (g0 rfl) rfl rfl ?_
  refine a_pu 6 rfl (ev_move rfl rfl) (by rfl) (by kernel_rfl) (by kernel_rfl) (by kernel_rfl) (fun _ _ _ h => h) (g0 rfl) rfl rfl ?_
  refine a_pu 7 rfl (ev_move rfl rfl) (by rfl) (by kernel_rfl) (by kernel_rfl) (by kernel_rfl) (fun _ _ _ h => h) (g0 rfl) rfl rfl ?_
  refine a_pu 8 rfl (ev_nilCheck rfl rfl) (by rfl) (by kernel_rfl) (by kernel_rfl) (by kernel_rfl) (fun _ _ _ h => h) (g0 rfl) rfl rfl ?_
  refine a_pu 9 rfl (ev_fieldAddr rfl rfl Tryd.runUnderlying77 rfl Tryd.sizeOf74 rfl rfl) (by rfl) (by kernel_rfl) (by kernel_rfl) (by kernel_rfl) (fun _ _ _ h => h) (g0 rfl) rfl rfl ?_
  refine a_pu 10 rfl (ev_fieldAddr rfl rfl Tryd.runUnderlying74 rfl Tryd.sizeOf3 rfl rfl) (by rfl) (by kernel_rfl) (by kernel_rfl) (by kernel_rfl) (fun _ _ _ h => h) (g0 rfl) rfl rfl ?_
  refine a_ld 11 1 rfl rfl (ev_ld1 (j := 7) rfl rfl Tryd.isAgg3 (sub_skip (n := 7) (sub_head (MetaS.sub_Active _)) rfl rfl) rfl) (by kernel_rfl) (by rfl) (by kernel_rfl) (by kernel_rfl) (by kernel_rfl) (by kernel_rfl) (fun _ _ _ h => h) (g0 rfl) rfl rfl ?_
  refine a_pu 12 rfl (ev_nilCheck rfl rfl) (by rfl) (by kernel_rfl) (by kernel_rfl) (by kernel_rfl) (fun _ _ _ h => h) (g0 rfl) rfl rfl ?_
  refine a_pu 13 rfl (ev_fieldAddr rfl rfl Tryd.runUnderlying77 rfl Tryd.sizeOf74 rfl rfl) (by rfl) (by kernel_rfl) (by kernel_rfl) (by kernel_rfl) (fun _ _ _ h => h) (g0 rfl) rfl rfl ?_
  refine a_pu 14 rfl (ev_fieldAddr rfl rfl Tryd.runUnderlying74 rfl Tryd.sizeOf72 rfl rfl) (by rfl) (by kernel_rfl) (by kernel_rfl) (by kernel_rfl) (fun _ _ _ h => h) (g0 rfl) rfl rfl ?_
  obtain ⟨hk1, H⟩ := chk_some H
  refine a_pu 15 rfl (ev_idx_array rfl rfl rfl Tryd.runUnderlying72 Tryd.sizeOf71 hk1 rfl) (by rfl) (by kernel_rfl) (by kernel_rfl) (by kernel_rfl) (fun _ _ _ h => h) (g0 rfl) rfl rfl ?_
  refine a_pu 16 rfl (ev_fieldAddr rfl rfl Tryd.runUnderlying71 rfl Tryd.sizeOf3 rfl rfl) (by rfl) (by kernel_rfl) (by kernel_rfl) (by kernel_rfl) (fun _ _ _ h => h) (g0 rfl) rfl rfl ?_
  refine a_ld 17 2 rfl rfl (ev_ld1 rfl rfl Tryd.isAgg3 (sub_skip (n := 7) (sub_head (sub_sub (MetaS.sub_Have _) (sub_sub (sub_arr Img.len Img.zero _ (k := a0_m.m.Active) hk1 rfl) (Img.sub_Size _) rfl) rfl)) rfl rfl) (by first | omega | (dsimp only; omega))) (by kernel_rfl) (by rfl) (by kernel_rfl) (by kernel_rfl) (by kernel_rfl) (by kernel_rfl) (fun _ _ _ h => h) (g0 rfl) rfl rfl ?_
  refine ac 18 (by kernel_rfl) (sl_cons (hG 0 rfl) (sl_cons (hG 0 rfl) (sl_cons (hG 0 rfl) sl_nil))) ?_
  refine k_pk (ModelT a0_mg a0_mp a0_m) rfl [0, 1] [0, 0, 0] rfl rfl ?_
  obtain ⟨r2, Hc3, H⟩ := bind_some' H
  refine k_call (c_model_Model_image a0_mp a0_m a0_mg a0_m.m.Active ((at' Img.zero a0_m.m.Have.l a0_m.m.Active).Size) r2 Hc3) Tryd.call48 rfl rfl rfl [] [0] rfl rfl (g0 rfl) rfl rfl ?_
  rintro _ _ _ ⟨A4, c5, rfl, rfl, rfl⟩
  dsimp only [app]
  refine k_unp 1 rfl ?_
  dsimp only [app, del]
  refine a_pu 19 rfl (ev_assign rfl rfl) (by rfl) (by kernel_rfl) (by kernel_rfl) (by kernel_rfl) (fun _ _ _ h => h) (g0 rfl) rfl rfl ?_
  refine a_done (by kernel_rfl) (sl_end (by kernel_rfl) (sl_cons (hG 0 rfl) (sl_end (by kernel_rfl) sl_nil))) ?_
  refine q_then ?_
  refine s_ret ?_
  refine k_pk (ModelT a0_mg a0_mp a0_m) rfl [0, 1] [0, 0, 0] rfl rfl ?_
  cases H
  exact q_end (rs_1 Tryd.results28 (rv_tmp rfl)) ⟨A4, c5, rfl, rfl, rfl⟩ [2] rfl 5 rfl [1, 0] rfl 0 rfl

def names_Valid_l0 (a0_s : List UInt8) (J2 : (Int × Int) → Option Bool) : Nat → (Int × Int) → Option Bool
  | 0, _ => none
  | k9 + 1, s9 =>
    bif decide (0 ≤ s9.2 ∧ s9.2 < (a0_s.length : Int)) then (
    (names_may (ru a0_s s9.2)).bind fun r12 =>
    bif (!r12) then (
    some false) else (
    names_Valid_l0 a0_s J2 k9 ((wrap64 (s9.1 + 1)), (s9.2 + rwd a0_s s9.2)))) else (
    chk (0 ≤ s9.2) <|
    J2 (s9.1, s9.2))

def names_Valid (a0_s : List UInt8) : Option Bool :=
jn (fun (x3 : Int × Int) =>
bnd (decide (x3.1 ≥ 1)) fun b5 =>
jn (fun x8 =>
some x8) fun J7 =>
bif b5 then (
J7 (decide (x3.1 ≤ 8))) else
J7 false) fun J2 =>
names_Valid_l0 a0_s J2 Fuel (0, 0)

theorem c_names_Valid (a0_s : List UInt8) (r : Bool) (H : names_Valid a0_s = some r) : Fn Tryd.prog 49 [(vs a0_s)] [] [] (fun v D' G' => v = (vb r) ∧ D' = [] ∧ G' = []) := by
  unfold names_Valid at H
  refine fn_of Tryd.func49 rfl Tryd.ntmps49 rfl ?_
  intro w0 D0 G0
  dsimp only [app, initEnv, Nat.zero_add, Nat.reduceAdd]
  refine s_seq ?_
  refine s_reg [0] rfl ?_
  refine o_pu rfl (ev_assign rfl rfl) (g0 rfl) rfl rfl ?_
  refine o_nil ?_
  refine q_then ?_
  refine s_seq ?_
  refine s_reg [0] rfl ?_
  refine o_pu rfl (ev_assign rfl rfl) (g0 rfl) rfl rfl ?_
  refine o_nil ?_
  refine q_then ?_
  refine s_seq ?_
  refine s_seq ?_
  refine s_reg [0, 1] rfl ?_
  refine o_pu rfl (ev_move rfl rfl) (g0 rfl) rfl rfl ?_
  refine oc (k_range (l := a0_s) rfl rfl rfl Tryd.runUnderlying9 (g0 rfl) rfl rfl ?_)
  intro b1
  refine o_nil ?_
  refine q_then ?_
  refine q_join (fun (x3 : Int × Int) (y4 : Unit) => ⟨D0, It b1 a0_s x3.2 :: G0, [(3, (vi x3.1))]⟩) H ?_ ?_
  · intro x3 y4 H
    dsimp only
    refine q_then ?_
    refine s_seq ?_
    refine s_reg [0, 1, 2, 3, 4, 5, 6] rfl ?_
    refine o_pu rfl (ev_move rfl rfl) (g0 rfl) rfl rfl ?_
    refine o_pu rfl (ev_bin rfl rfl rfl rfl (geq_i _ 1)) (g0 rfl) rfl rfl ?_
    refine o_pu rfl (ev_move rfl rfl) (g0 rfl) rfl rfl ?_
    refine k_name 18 rfl ?_
    intro b5 hb6
    have H := bnd_eq H hb6
    refine o_jb 21 [6] [3, 16, 17, 18] H rfl ?_ ?_
    · intro x8 H
      refine o_pu rfl (ev_assign rfl rfl) (g0 rfl) rfl rfl ?_
      refine o_nil ?_
      refine q_then ?_
      refine s_ret ?_
      cases H
      exact q_end (rs_1 Tryd.results49 (rv_tmp rfl)) ⟨rfl, rfl, rfl⟩ [] rfl 0 rfl [] rfl 1 rfl
    · intro J7 H
      cases b5 with
      | true =>
        rw [cond_true] at H
        refine o_pu rfl (ev_move rfl rfl) (g1 rfl rfl rfl rfl) rfl rfl ?_
        refine o_pu rfl (ev_bin rfl rfl rfl rfl (leq_i _ 8)) (g1 rfl rfl rfl rfl) rfl rfl ?_
        refine o_pu rfl (ev_pick_t rfl rfl rfl) (g0 rfl) rfl rfl ?_
        exact k_wk (J7 (decide (x3.1 ≤ 8)) H) [21, 3, 16, 17, 18] [] 0 [0] 0 rfl rfl rfl
      | false =>
        rw [cond_false] at H
        refine o_gnot rfl rfl rfl rfl rfl rfl rfl rfl ?_
        refine o_gnot rfl rfl rfl rfl rfl rfl rfl rfl ?_
        refine o_pu rfl (ev_pick_f rfl rfl rfl) (g0 rfl) rfl rfl ?_
        exact k_wk (J7 false H) [21, 3, 16, 17, 18] [] 0 [0] 0 rfl rfl rfl
  · intro J2 H
    refine s_block ?_
    refine s_loop (k_wk (loop_ind (fun (s9 : Int × Int) (y9 : Unit) => ⟨D0, It b1 a0_s s9.2 :: G0, [(3, (vi s9.1)), (7, (.pointer (some ⟨b1, 0, none⟩)))]⟩) (names_Valid_l0 a0_s _) _ (fun _ => rfl) ?_ Fuel (0, 0) () H) [3, 7] [] 0 [0] 0 rfl rfl rfl)
    intro k9 s9 y9 ih H
    dsimp only
    rw [names_Valid_l0] at H
    refine s_seq ?_
    refine s_reg [0, 1] rfl ?_
    rcases Bool.eq_false_or_eq_true (decide (0 ≤ s9.2 ∧ s9.2 < (a0_s.length : Int))) with hb10 | hb10
    · have H := cnd_t H hb10
      refine oc (k_next 0 rfl rfl rfl rfl (g0 rfl) rfl rfl hb10 ?_)
      refine o_pu rfl (ev_extract rfl rfl rfl) (g0 rfl) rfl rfl ?_
      refine o_nil ?_
      refine q_then ?_
      refine s_seq ?_
      refine s_cond_t rfl ?_
      refine s_skip ?_
      refine q_then ?_
      refine s_block ?_
      refine s_seq ?_
      refine s_reg [0, 1] rfl ?_
      refine o_pu rfl (ev_extract rfl rfl rfl) (g0 rfl) rfl rfl ?_
      refine o_pu rfl (ev_assign rfl rfl) (g0 rfl) rfl rfl ?_
      refine o_nil ?_
      refine q_then ?_
      refine s_seq ?_
      refine s_seq ?_
      refine s_reg [0, 1, 2] rfl ?_
      refine o_pu rfl (ev_move rfl rfl) (g0 rfl) rfl rfl ?_
      obtain ⟨r12, Hc13, H⟩ := bind_some' H
      refine oc (k_call (c_names_may (ru a0_s s9.2) r12 Hc13) Tryd.call65 rfl rfl rfl [] [] rfl rfl (g0 rfl) rfl rfl ?_)
      rintro _ _ _ ⟨rfl, rfl, rfl⟩
      dsimp only [app]
      refine o_pu rfl (ev_not rfl rfl) (g0 rfl) rfl rfl ?_
      refine o_nil ?_
      refine q_then ?_
      refine s_cond rfl ?_ ?_
      · intro hb14
        have H := cnd_t H hb14
        refine s_seq ?_
        refine s_reg [0] rfl ?_
        refine o_pu rfl (ev_assign rfl rfl) (g0 rfl) rfl rfl ?_
        refine o_nil ?_
        refine q_then ?_
        refine s_ret ?_
        refine q_then_r ?_
        refine q_block_r ?_
        refine q_then_r ?_
        refine q_block_r ?_
        refine q_then_r ?_
        cases H
        exact q_end (rs_1 Tryd.results49 (rv_tmp rfl)) ⟨rfl, rfl, rfl⟩ [] rfl 0 rfl [] rfl 1 rfl
      · intro hb14
        have H := cnd_f H hb14
        refine s_skip ?_
        refine q_then ?_
        refine s_reg [0, 1, 2] rfl ?_
        refine o_pu rfl (ev_move rfl rfl) (g0 rfl) rfl rfl ?_
        refine o_pu rfl (ev_bin rfl rfl rfl rfl (add_i _ 1)) (g0 rfl) rfl rfl ?_
        refine o_pu rfl (ev_assign rfl rfl) (g0 rfl) rfl rfl ?_
        refine o_nil ?_
        refine q_block ?_
        refine q_loop ?_
        exact k_wk (ih ((wrap64 (s9.1 + 1)), (s9.2 + rwd a0_s s9.2)) () H) [3, 7] [] 0 [0] 0 rfl rfl rfl
    · have H := cnd_f H hb10
      obtain ⟨hk11, H⟩ := chk_some H
      refine oc (k_over 0 rfl rfl rfl rfl (g0 rfl) rfl rfl hb10 hk11 ?_)
      refine o_pu rfl (ev_extract rfl rfl rfl) (g0 rfl) rfl rfl ?_
      refine o_nil ?_
      refine q_then ?_
      refine s_seq ?_
      refine s_cond_f rfl ?_
      refine s_exit ?_
      refine q_then_x ?_
      refine q_then_x ?_
      refine q_block_x ?_
      exact k_wk (J2 (s9.1, s9.2) () H) [3] [] 0 [0] 0 rfl rfl rfl

def math_bits_Mul (a0_x : UInt64) (a1_y : UInt64) : Option (UInt64 × UInt64) :=
(math_bits_Mul64 a0_x a1_y).bind fun r1 =>
some (r1.1, r1.2)

theorem c_math_bits_Mul (a0_x : UInt64) (a1_y : UInt64) (r : UInt64 × UInt64) (H : math_bits_Mul a0_x a1_y = some r) : Fn Tryd.prog 50 [(v64 a0_x), (v64 a1_y)] [] [] (fun v D' G' => v = (.tuple #[(v64 r.1), (v64 r.2)]) ∧ D' = [] ∧ G' = []) := by
  unfold math_bits_Mul at H
  refine fn_of Tryd.func50 rfl Tryd.ntmps50 rfl ?_
  intro w0 D0 G0
  dsimp only [app, initEnv, Nat.zero_add, Nat.reduceAdd]
  refine s_seq ?_
  refine s_reg [0, 1] rfl ?_
  refine o_pu rfl (ev_assign rfl rfl) (g0 rfl) rfl rfl ?_
  refine o_pu rfl (ev_assign rfl rfl) (g0 rfl) rfl rfl ?_
  refine o_nil ?_
  refine q_then ?_
  refine s_seq ?_
  refine s_cond_f rfl ?_
  refine s_skip ?_
  refine q_then ?_
  refine s_seq ?_
  refine s_reg [0, 1, 2, 3, 4, 5, 6, 7] rfl ?_
  refine o_pu rfl (ev_move rfl rfl) (g0 rfl) rfl rfl ?_
  refine o_pu rfl (ev_move rfl rfl) (g0 rfl) rfl rfl ?_
  obtain ⟨r1, Hc2, H⟩ := bind_some' H
  refine oc (k_call (c_math_bits_Mul64 a0_x a1_y r1 Hc2) Tryd.call67 rfl rfl rfl [] [] rfl rfl (g0 rfl) rfl rfl ?_)
  rintro _ _ _ ⟨rfl, rfl, rfl⟩
  dsimp only [app]
  refine o_pu rfl (ev_move rfl rfl) (g0 rfl) rfl rfl ?_
  refine o_pu rfl (ev_extract rfl rfl rfl) (g0 rfl) rfl rfl ?_
  refine o_pu rfl (ev_extract rfl rfl rfl) (g0 rfl) rfl rfl ?_
  refine o_pu rfl (ev_assign rfl rfl) (g0 rfl) rfl rfl ?_
  refine o_pu rfl (ev_assign rfl rfl) (g0 rfl) rfl rfl ?_
  refine o_nil ?_
  refine q_then ?_
  refine s_seq ?_
  refine s_reg [0, 1, 2, 3] rfl ?_
  refine o_pu rfl (ev_move rfl rfl) (g0 rfl) rfl rfl ?_
  refine o_pu rfl (ev_move rfl rfl) (g0 rfl) rfl rfl ?_
  refine o_pu rfl (ev_assign rfl rfl) (g0 rfl) rfl rfl ?_
  refine o_pu rfl (ev_assign rfl rfl) (g0 rfl) rfl rfl ?_
  refine o_nil ?_
  refine q_then ?_
  refine s_ret ?_
  cases H
  exact q_end (rs_2 Tryd.results50 (rv_tmp rfl) (rv_tmp rfl)) ⟨rfl, rfl, rfl⟩ [] rfl 0 rfl [] rfl 0 rfl

def sha_New : Option StreamS :=
(sha_first ).bind fun r1 =>
some (⟨r1, 0, []⟩ : StreamS)

theorem c_sha_New (r : StreamS) (H : sha_New  = some r) : Fn Tryd.prog 51 [] [] [] (fun v D' G' => ∃ (b4 : Nat) (A5 : Option Addr) (c6 : Nat), v = (.pointer (some ⟨b4, 0, none⟩)) ∧ D' = [Sl E8 A5 c6 r.rest] ∧ G' = [At b4 0 (r.h.l.flatMap E32 ++ ([v64 r.count, .slice A5 r.rest.length c6]))]) := by
  unfold sha_New at H
  refine fn_of Tryd.func51 rfl Tryd.ntmps51 rfl ?_
  intro w0 D0 G0
  dsimp only [app, initEnv, Nat.zero_add, Nat.reduceAdd]
  refine s_seq ?_
  refine s_reg [0] rfl ?_
  refine o_pu rfl (ev_assign rfl rfl) (g0 rfl) rfl rfl ?_
  refine o_nil ?_
  refine q_then ?_
  refine s_seq ?_
  refine s_reg [0, 1, 2, 3] rfl ?_
  obtain ⟨r1, Hc2, H⟩ := bind_some' H
  refine oc (k_call (c_sha_first  r1 Hc2) Tryd.call68 rfl rfl rfl [] [] rfl rfl (g0 rfl) rfl rfl ?_)
  rintro _ _ _ ⟨rfl, rfl, rfl⟩
  dsimp only [app]
  refine o_pu rfl (ev_build (cs := r1.l.flatMap E32 ++ ([v64 0, .slice none 0 0])) rfl rfl Tryd.zeroValue133 Tryd.runUnderlying133 pl133 (show Instr.fill _ ((Arr.zero 0 8 : Arr UInt32 8).l.flatMap E32 ++ ([v64 0, .slice none 0 0]) : List Value).toArray _ = some _ from (fill_cons rfl (s := r1.l.flatMap E32) rfl (arr_len E32_len _ rfl) (spl_head (spl_all ((arr_len E32_len _ rfl).trans (arr_len E32_len _ rfl).symm))) fill_nil))) (g0 rfl) rfl rfl ?_
  refine oc (k_box rfl rfl rfl (cs := r1.l.flatMap E32 ++ ([v64 0, .slice none 0 0])) rfl (g0 rfl) rfl rfl ?_)
  intro b3
  refine o_pu rfl (ev_assign rfl rfl) (g0 rfl) rfl rfl ?_
  refine o_nil ?_
  refine q_then ?_
  refine s_ret ?_
  cases H
  refine k_nil_sl E8 ?_
  exact q_end (rs_1 Tryd.results51 (rv_tmp rfl)) ⟨b3, none, 0, rfl, rfl, rfl⟩ [0] rfl 1 rfl [0] rfl 0 rfl

def sha_long (a0_n : UInt64) : Option (List UInt8) :=
(turn_Bytes ((shr64 (a0_n : UInt64) (32 : UInt64).toNat).toUInt32)).bind fun r1 =>
(turn_Bytes a0_n.toUInt32).bind fun r5 =>
(slices_Concat ([r1, r5] : List (List UInt8))).bind fun r10 =>
some r10

theorem c_sha_long (a0_n : UInt64) (r : (List UInt8)) (H : sha_long a0_n = some r) : Fn Tryd.prog 71 [(v64 a0_n)] [] [] (fun v D' G' => ∃ (A14 : Option Addr) (c15 : Nat), v = (.slice A14 r.length c15) ∧ D' = [Sl E8 A14 c15 r] ∧ G' = [Spare A14 r.length c15 1]) := by
  unfold sha_long at H
  refine fn_of Tryd.func71 rfl Tryd.ntmps71 rfl ?_
  intro w0 D0 G0
  dsimp only [app, initEnv, Nat.zero_add, Nat.reduceAdd]
  refine s_seq ?_
  refine s_reg [0] rfl ?_
  refine o_pu rfl (ev_assign rfl rfl) (g0 rfl) rfl rfl ?_
  refine o_nil ?_
  refine q_then ?_
  refine s_seq ?_
  refine s_reg [0, 1, 2, 3, 4, 5, 6, 7, 8, 9] rfl ?_
  refine o_pu rfl (ev_move rfl rfl) (g0 rfl) rfl rfl ?_
  refine o_pu rfl (ev_bin rfl rfl rfl rfl (shr_64 _ 32)) (g0 rfl) rfl rfl ?_
  refine o_pu rfl (ev_conv rfl rfl (conv_u64_u32 _ Tryd.runUnderlying127 Tryd.runUnderlying124)) (g0 rfl) rfl rfl ?_
  obtain ⟨r1, Hc2, H⟩ := bind_some' H
  refine oc (k_call (c_turn_Bytes ((shr64 (a0_n : UInt64) (32 : UInt64).toNat).toUInt32) r1 Hc2) Tryd.call104 rfl rfl rfl [] [] rfl rfl (g0 rfl) rfl rfl ?_)
  rintro _ _ _ ⟨A3, c4, rfl, rfl, rfl⟩
  dsimp only [app]
  refine o_pu rfl (ev_move rfl rfl) (g0 rfl) rfl rfl ?_
  refine o_pu rfl (ev_conv rfl rfl (conv_u64_u32 _ Tryd.runUnderlying127 Tryd.runUnderlying124)) (g0 rfl) rfl rfl ?_
  obtain ⟨r5, Hc6, H⟩ := bind_some' H
  refine oc (k_call (c_turn_Bytes a0_n.toUInt32 r5 Hc6) Tryd.call104 rfl rfl rfl [] [] rfl rfl (g0 rfl) rfl rfl ?_)
  rintro _ _ _ ⟨A7, c8, rfl, rfl, rfl⟩
  dsimp only [app]
  refine oc (k_buildSlice (f := EV) [.slice A3 r1.length c4, .slice A7 r5.length c8] rfl rfl rfl rfl Tryd.runUnderlying150 Tryd.sizeOf32 Tryd.zeroValue32 rfl rfl (fill_all rfl rfl (by simp) rfl rfl) (g0 rfl) rfl rfl ?_)
  intro b9
  refine k_sls [(A3, c4, r1), (A7, c8, r5)] 0 rfl [2, 1] rfl ?_
  obtain ⟨r10, Hc11, H⟩ := bind_some' H
  refine oc (k_call (c_slices_Concat ([r1, r5] : List (List UInt8)) (some ⟨b9, 0, none⟩) 2 r10 Hc11) Tryd.call69 rfl rfl rfl [0] [] rfl rfl (g0 rfl) rfl rfl ?_)
  rintro _ _ _ ⟨A12, c13, rfl, rfl, rfl⟩
  dsimp only [app]
  refine o_pu rfl (ev_assign rfl rfl) (g0 rfl) rfl rfl ?_
  refine o_nil ?_
  refine q_then ?_
  refine s_ret ?_
  cases H
  exact q_end (rs_1 Tryd.results71 (rv_tmp rfl)) ⟨A12, c13, rfl, rfl, rfl⟩ [0] rfl 5 rfl [0] rfl 0 rfl

def sha_told_l0 (a0_h : Arr UInt32 8) (J2 : (List UInt8) → Option (List UInt8)) : Nat → (List UInt8 × Int) → Option (List UInt8)
  | 0, _ => none
  | k5 + 1, s5 =>
    bif (decide (s5.2 < 8)) then (
    chk (0 ≤ s5.2 ∧ s5.2 < 8) <|
    (turn_Bytes (at' 0 a0_h.l s5.2)).bind fun r8 =>
    chk (s5.1.length + r8.length ≤ 68719476736) <|
    sha_told_l0 a0_h J2 k5 ((s5.1 ++ r8), (wrap64 (s5.2 + 1)))) else (
    J2 s5.1)

def sha_told (a0_h : Arr UInt32 8) : Option (List UInt8) :=
jn (fun (x3 : List UInt8) =>
some x3) fun J2 =>
sha_told_l0 a0_h J2 Fuel ([], 0)

theorem c_sha_told (a0_h : Arr UInt32 8) (r : (List UInt8)) (H : sha_told a0_h = some r) : Fn Tryd.prog 72 [(.agg (a0_h.l.flatMap E32).toArray)] [] [] (fun v D' G' => ∃ (A15 : Option Addr) (c16 : Nat), v = (.slice A15 r.length c16) ∧ D' = [Sl E8 A15 c16 r] ∧ G' = [Spare A15 r.length c16 1]) := by
  unfold sha_told at H
  refine fn_of Tryd.func72 rfl Tryd.ntmps72 rfl ?_
  intro w0 D0 G0
  dsimp only [app, initEnv, Nat.zero_add, Nat.reduceAdd]
  refine s_seq ?_
  refine s_reg [0, 1] rfl ?_
  refine oc (k_box rfl rfl rfl (cs := a0_h.l.flatMap E32) rfl (g0 rfl) rfl rfl ?_)
  intro b1
  refine o_pu rfl (ev_assign rfl rfl) (g0 rfl) rfl rfl ?_
  refine o_nil ?_
  refine q_then ?_
  refine s_seq ?_
  refine s_reg [0] rfl ?_
  refine o_pu rfl (ev_assign rfl rfl) (g0 rfl) rfl rfl ?_
  refine o_nil ?_
  refine q_then ?_
  refine s_seq ?_
  refine s_seq ?_
  refine s_reg [0, 1] rfl ?_
  refine o_ld (hG 0 rfl) rfl (ev_ldN (j := 0) rfl rfl Tryd.isAgg130 (sz (arr_len E32_len _ rfl) Tryd.sizeOf130) (sub_all _) rfl) (g0 rfl) rfl rfl ?_
  refine o_pu rfl (ev_move rfl rfl) (g0 rfl) rfl rfl ?_
  refine o_nil ?_
  refine q_then ?_
  refine q_join (fun (x3 : List UInt8) (y4 : Option Addr × Nat) => ⟨Sl E8 y4.1 y4.2 x3 :: D0, At b1 0 (a0_h.l.flatMap E32) :: Spare y4.1 x3.length y4.2 1 :: G0, [(3, (.slice y4.1 x3.length y4.2))]⟩) H ?_ ?_
  · intro x3 y4 H
    dsimp only
    refine q_then ?_
    refine s_seq ?_
    refine s_reg [0, 1] rfl ?_
    refine o_pu rfl (ev_move rfl rfl) (g0 rfl) rfl rfl ?_
    refine o_pu rfl (ev_assign rfl rfl) (g0 rfl) rfl rfl ?_
    refine o_nil ?_
    refine q_then ?_
    refine s_ret ?_
    cases H
    exact q_end (rs_1 Tryd.results72 (rv_tmp rfl)) ⟨y4.1, y4.2, rfl, rfl, rfl⟩ [0] rfl 1 rfl [1] rfl 1 rfl
  · intro J2 H
    refine s_block ?_
    refine k_nil_sl E8 ?_
    refine k_nil_spare 1 ?_
    refine s_loop (k_wk (loop_ind (fun (s5 : List UInt8 × Int) (y5 : Option Addr × Nat) => ⟨Sl E8 y5.1 y5.2 s5.1 :: D0, At b1 0 (a0_h.l.flatMap E32) :: Spare y5.1 s5.1.length y5.2 1 :: G0, [(3, (.slice y5.1 s5.1.length y5.2)), (6, (.agg (a0_h.l.flatMap E32).toArray)), (7, (vi s5.2))]⟩) (sha_told_l0 a0_h _) _ (fun _ => rfl) ?_ Fuel ([], 0) (none, 0) H) [3, 6, 7] [0] 1 [1, 0] 0 rfl rfl rfl)
    intro k5 s5 y5 ih H
    dsimp only
    rw [sha_told_l0] at H
    refine s_seq ?_
    refine s_reg [0] rfl ?_
    refine o_pu rfl (ev_bin rfl rfl rfl rfl (lss_i _ 8)) (g0 rfl) rfl rfl ?_
    refine o_nil ?_
    refine q_then ?_
    refine s_seq ?_
    refine s_cond rfl ?_ ?_
    · intro hb6
      have H := cnd_t H hb6
      refine s_skip ?_
      refine q_then ?_
      refine s_seq ?_
      refine s_block ?_
      refine s_seq ?_
      refine s_reg [0, 1] rfl ?_
      obtain ⟨hk7, H⟩ := chk_some H
      refine o_pu rfl (ev_index_arr (k := s5.2) (g := v32) 0 rfl rfl rfl Tryd.runUnderlying130 Tryd.sizeOf124 Tryd.isAgg124 E32_len (fun _ => rfl) hk7) (g0 rfl) rfl rfl ?_
      refine o_pu rfl (ev_assign rfl rfl) (g0 rfl) rfl rfl ?_
      refine o_nil ?_
      refine q_then ?_
      refine s_reg [0, 1, 2, 3, 4] rfl ?_
      refine o_pu rfl (ev_move rfl rfl) (g0 rfl) rfl rfl ?_
      refine o_pu rfl (ev_move rfl rfl) (g0 rfl) rfl rfl ?_
      obtain ⟨r8, Hc9, H⟩ := bind_some' H
      refine oc (k_call (c_turn_Bytes (at' 0 a0_h.l s5.2) r8 Hc9) Tryd.call104 rfl rfl rfl [] [] rfl rfl (g0 rfl) rfl rfl ?_)
      rintro _ _ _ ⟨A10, c11, rfl, rfl, rfl⟩
      dsimp only [app]
      obtain ⟨hk14, H⟩ := chk_some H
      refine oc (k_append 1 0 1 rfl rfl rfl rfl rfl rfl rfl E8_len E8_one Tryd.underlying32 Tryd.underlying32 info5 rfl rfl rfl rfl hk14 (g0 rfl) rfl rfl ?_)
      intro A12 c13
      refine o_pu rfl (ev_assign rfl rfl) (g0 rfl) rfl rfl ?_
      refine o_nil ?_
      refine q_block ?_
      refine q_then ?_
      refine s_reg [0, 1] rfl ?_
      refine o_pu rfl (ev_bin rfl rfl rfl rfl (add_i _ 1)) (g0 rfl) rfl rfl ?_
      refine o_pu rfl (ev_move rfl rfl) (g0 rfl) rfl rfl ?_
      refine o_nil ?_
      refine q_loop ?_
      exact k_wk (ih ((s5.1 ++ r8), (wrap64 (s5.2 + 1))) (A12, c13) H) [3, 6, 7] [0] 3 [0, 0] 0 rfl rfl rfl
    · intro hb6
      have H := cnd_f H hb6
      refine s_exit ?_
      refine q_then_x ?_
      refine q_then_x ?_
      refine q_block_x ?_
      exact k_wk (J2 s5.1 (y5.1, y5.2) H) [3] [0] 1 [0, 0] 0 rfl rfl rfl

def meta_image (a0_i : Img) : Option Bool :=
bnd (a0_i.Version == 0) fun b2 =>
jn (fun x5 =>
bif x5 then (
(meta_none a0_i).bind fun r7 =>
some r7) else (
bnd (decide (a0_i.Version > 0)) fun b9 =>
jn (fun x12 =>
bnd x12 fun b13 =>
jn (fun x16 =>
bnd x16 fun b17 =>
jn (fun x20 =>
some x20) fun J19 =>
bif b17 then (
J19 (decide (a0_i.Size ≤ 1920))) else
J19 false) fun J15 =>
bif b13 then (
J15 (decide (a0_i.Size > 0))) else
J15 false) fun J11 =>
bif b9 then (
J11 (decide (a0_i.Version ≤ 1073741824))) else
J11 false)) fun J4 =>
bif b2 then (
J4 true) else
J4 (a0_i.Size == 0)

theorem c_meta_image (a0_i : Img) (r : Bool) (H : meta_image a0_i = some r) : Fn Tryd.prog 73 [(.agg (Img.cells a0_i).toArray)] [] [] (fun v D' G' => v = (vb r) ∧ D' = [] ∧ G' = []) := by
  unfold meta_image at H
  refine fn_of Tryd.func73 rfl Tryd.ntmps73 rfl ?_
  intro w0 D0 G0
  dsimp only [app, initEnv, Nat.zero_add, Nat.reduceAdd]
  refine s_seq ?_
  refine s_reg [0, 1] rfl ?_
  refine oc (k_box rfl rfl rfl (cs := Img.cells a0_i) rfl (g0 rfl) rfl rfl ?_)
  intro b1
  refine o_pu rfl (ev_assign rfl rfl) (g0 rfl) rfl rfl ?_
  refine o_nil ?_
  refine q_then ?_
  refine s_seq ?_
  refine s_seq ?_
  refine s_reg [0, 1, 2, 3, 4, 5, 6, 7] rfl ?_
  refine o_pu rfl (ev_fieldAddr rfl rfl Tryd.runUnderlying71 rfl Tryd.sizeOf3 rfl rfl) (g0 rfl) rfl rfl ?_
  refine o_ld (hG 0 rfl) rfl (ev_ld1 (j := 0) rfl rfl Tryd.isAgg3 (Img.sub_Version _) rfl) (g0 rfl) rfl rfl ?_
  refine o_pu rfl (ev_bin rfl rfl rfl rfl (eql_i _ 0)) (g0 rfl) rfl rfl ?_
  refine o_pu rfl (ev_move rfl rfl) (g0 rfl) rfl rfl ?_
  refine k_name 6 rfl ?_
  intro b2 hb3
  have H := bnd_eq H hb3
  refine o_jb 10 [] [0, 1, 2, 3, 4, 5, 6] H rfl ?_ ?_
  · intro x5 H
    refine o_nil ?_
    refine q_then ?_
    refine s_cond rfl ?_ ?_
    · intro hb6
      have H := cnd_t H hb6
      refine s_seq ?_
      refine s_reg [0, 1, 2] rfl ?_
      refine o_ld (hG 0 rfl) rfl (ev_ldN (j := 0) rfl rfl Tryd.isAgg71 (sz (Img.len _) Tryd.sizeOf71) (sub_all _) rfl) (g0 rfl) rfl rfl ?_
      obtain ⟨r7, Hc8, H⟩ := bind_some' H
      refine oc (k_call (c_meta_none a0_i r7 Hc8) Tryd.call74 rfl rfl rfl [] [] rfl rfl (g0 rfl) rfl rfl ?_)
      rintro _ _ _ ⟨rfl, rfl, rfl⟩
      dsimp only [app]
      refine o_pu rfl (ev_assign rfl rfl) (g0 rfl) rfl rfl ?_
      refine o_nil ?_
      refine q_then ?_
      refine s_ret ?_
      refine q_then_r ?_
      cases H
      exact q_end (rs_1 Tryd.results73 (rv_tmp rfl)) ⟨rfl, rfl, rfl⟩ [] rfl 0 rfl [] rfl 1 rfl
    · intro hb6
      have H := cnd_f H hb6
      refine s_skip ?_
      refine q_then ?_
      refine s_seq ?_
      refine s_reg [0, 1, 2, 3, 4, 5, 6, 7, 8, 9, 10, 11, 12, 13, 14, 15, 16, 17, 18] rfl ?_
      refine o_pu rfl (ev_fieldAddr rfl rfl Tryd.runUnderlying71 rfl Tryd.sizeOf3 rfl rfl) (g0 rfl) rfl rfl ?_
      refine o_ld (hG 0 rfl) rfl (ev_ld1 (j := 0) rfl rfl Tryd.isAgg3 (Img.sub_Version _) rfl) (g0 rfl) rfl rfl ?_
      refine o_pu rfl (ev_bin rfl rfl rfl rfl (gtr_i _ 0)) (g0 rfl) rfl rfl ?_
      refine o_pu rfl (ev_move rfl rfl) (g0 rfl) rfl rfl ?_
      refine k_name 16 rfl ?_
      intro b9 hb10
      have H := bnd_eq H hb10
      refine o_jb 20 [8, 9, 10, 11, 12, 13, 14, 15, 16, 17, 18] [0, 1, 2, 3, 4, 5, 6, 10, 13, 14, 15, 16] H rfl ?_ ?_
      · intro x12 H
        refine o_pu rfl (ev_move rfl rfl) (g0 rfl) rfl rfl ?_
        refine k_name 21 rfl ?_
        intro b13 hb14
        have H := bnd_eq H hb14
        refine o_jb 25 [13, 14, 15, 16, 17, 18] [0, 1, 2, 3, 4, 5, 6, 10, 13, 14, 15, 16, 20, 21] H rfl ?_ ?_
        · intro x16 H
          refine o_pu rfl (ev_move rfl rfl) (g0 rfl) rfl rfl ?_
          refine k_name 26 rfl ?_
          intro b17 hb18
          have H := bnd_eq H hb18
          refine o_jb 30 [18] [0, 1, 2, 3, 4, 5, 6, 10, 13, 14, 15, 16, 20, 21, 25, 26] H rfl ?_ ?_
          · intro x20 H
            refine o_pu rfl (ev_assign rfl rfl) (g0 rfl) rfl rfl ?_
            refine o_nil ?_
            refine q_then ?_
            refine s_ret ?_
            cases H
            exact q_end (rs_1 Tryd.results73 (rv_tmp rfl)) ⟨rfl, rfl, rfl⟩ [] rfl 0 rfl [] rfl 1 rfl
          · intro J19 H
            cases b17 with
            | true =>
              rw [cond_true] at H
              refine o_pu rfl (ev_fieldAddr rfl rfl Tryd.runUnderlying71 rfl Tryd.sizeOf3 rfl rfl) (g1 rfl rfl rfl rfl) rfl rfl ?_
              refine o_ld (hG 0 rfl) rfl (ev_ld1 (j := 1) rfl rfl Tryd.isAgg3 (Img.sub_Size _) rfl) (g1 rfl rfl rfl rfl) rfl rfl ?_
              refine o_pu rfl (ev_bin rfl rfl rfl rfl (leq_i _ 1920)) (g1 rfl rfl rfl rfl) rfl rfl ?_
              refine o_pu rfl (ev_pick_t rfl rfl rfl) (g0 rfl) rfl rfl ?_
              exact k_wk (J19 (decide (a0_i.Size ≤ 1920)) H) [30, 0, 1, 2, 3, 4, 5, 6, 10, 13, 14, 15, 16, 20, 21, 25, 26] [] 0 [0] 0 rfl rfl rfl
            | false =>
              rw [cond_false] at H
              refine o_gnot rfl rfl rfl rfl rfl rfl rfl rfl ?_
              refine o_gnot rfl rfl rfl rfl rfl rfl rfl rfl ?_
              refine o_gnot rfl rfl rfl rfl rfl rfl rfl rfl ?_
              refine o_pu rfl (ev_pick_f rfl rfl rfl) (g0 rfl) rfl rfl ?_
              exact k_wk (J19 false H) [30, 0, 1, 2, 3, 4, 5, 6, 10, 13, 14, 15, 16, 20, 21, 25, 26] [] 0 [0] 0 rfl rfl rfl
        · intro J15 H
          cases b13 with
          | true =>
            rw [cond_true] at H
            refine o_pu rfl (ev_fieldAddr rfl rfl Tryd.runUnderlying71 rfl Tryd.sizeOf3 rfl rfl) (g1 rfl rfl rfl rfl) rfl rfl ?_
            refine o_ld (hG 0 rfl) rfl (ev_ld1 (j := 1) rfl rfl Tryd.isAgg3 (Img.sub_Size _) rfl) (g1 rfl rfl rfl rfl) rfl rfl ?_
            refine o_pu rfl (ev_bin rfl rfl rfl rfl (gtr_i _ 0)) (g1 rfl rfl rfl rfl) rfl rfl ?_
            refine o_pu rfl (ev_pick_t rfl rfl rfl) (g0 rfl) rfl rfl ?_
            exact k_wk (J15 (decide (a0_i.Size > 0)) H) [25, 0, 1, 2, 3, 4, 5, 6, 10, 13, 14, 15, 16, 20, 21] [] 0 [0] 0 rfl rfl rfl
          | false =>
            rw [cond_false] at H
            refine o_gnot rfl rfl rfl rfl rfl rfl rfl rfl ?_
            refine o_gnot rfl rfl rfl rfl rfl rfl rfl rfl ?_
            refine o_gnot rfl rfl rfl rfl rfl rfl rfl rfl ?_
            refine o_pu rfl (ev_pick_f rfl rfl rfl) (g0 rfl) rfl rfl ?_
            exact k_wk (J15 false H) [25, 0, 1, 2, 3, 4, 5, 6, 10, 13, 14, 15, 16, 20, 21] [] 0 [0] 0 rfl rfl rfl
      · intro J11 H
        cases b9 with
        | true =>
          rw [cond_true] at H
          refine o_pu rfl (ev_fieldAddr rfl rfl Tryd.runUnderlying71 rfl Tryd.sizeOf3 rfl rfl) (g1 rfl rfl rfl rfl) rfl rfl ?_
          refine o_ld (hG 0 rfl) rfl (ev_ld1 (j := 0) rfl rfl Tryd.isAgg3 (Img.sub_Version _) rfl) (g1 rfl rfl rfl rfl) rfl rfl ?_
          refine o_pu rfl (ev_bin rfl rfl rfl rfl (leq_i _ 1073741824)) (g1 rfl rfl rfl rfl) rfl rfl ?_
          refine o_pu rfl (ev_pick_t rfl rfl rfl) (g0 rfl) rfl rfl ?_
          exact k_wk (J11 (decide (a0_i.Version ≤ 1073741824)) H) [20, 0, 1, 2, 3, 4, 5, 6, 10, 13, 14, 15, 16] [] 0 [0] 0 rfl rfl rfl
        | false =>
          rw [cond_false] at H
          refine o_gnot rfl rfl rfl rfl rfl rfl rfl rfl ?_
          refine o_gnot rfl rfl rfl rfl rfl rfl rfl rfl ?_
          refine o_gnot rfl rfl rfl rfl rfl rfl rfl rfl ?_
          refine o_pu rfl (ev_pick_f rfl rfl rfl) (g0 rfl) rfl rfl ?_
          exact k_wk (J11 false H) [20, 0, 1, 2, 3, 4, 5, 6, 10, 13, 14, 15, 16] [] 0 [0] 0 rfl rfl rfl
  · intro J4 H
    cases b2 with
    | true =>
      rw [cond_true] at H
      refine o_gnot rfl rfl rfl rfl rfl rfl rfl rfl ?_
      refine o_gnot rfl rfl rfl rfl rfl rfl rfl rfl ?_
      refine o_gnot rfl rfl rfl rfl rfl rfl rfl rfl ?_
      refine o_pu rfl (ev_pick_t rfl rfl rfl) (g0 rfl) rfl rfl ?_
      exact k_wk (J4 true H) [10, 0, 1, 2, 3, 4, 5, 6] [] 0 [0] 0 rfl rfl rfl
    | false =>
      rw [cond_false] at H
      refine o_pu rfl (ev_fieldAddr rfl rfl Tryd.runUnderlying71 rfl Tryd.sizeOf3 rfl rfl) (g1 rfl rfl rfl rfl) rfl rfl ?_
      refine o_ld (hG 0 rfl) rfl (ev_ld1 (j := 1) rfl rfl Tryd.isAgg3 (Img.sub_Size _) rfl) (g1 rfl rfl rfl rfl) rfl rfl ?_
      refine o_pu rfl (ev_bin rfl rfl rfl rfl (eql_i _ 0)) (g1 rfl rfl rfl rfl) rfl rfl ?_
      refine o_pu rfl (ev_pick_f rfl rfl rfl) (g0 rfl) rfl rfl ?_
      exact k_wk (J4 (a0_i.Size == 0) H) [10, 0, 1, 2, 3, 4, 5, 6] [] 0 [0] 0 rfl rfl rfl

def update_verify (a0_m : MetaS) (a1_f : FactS) : Option ChangeS :=
(update_when (a0_m.Phase != 1) (11 : Int)).bind fun r5 =>
(update_Chunks a0_m.Coming.Size).bind fun r7 =>
(update_when (decide (a0_m.Got < r7)) (12 : Int)).bind fun r9 =>
(update_when (!(decide (a1_f.Digest = a0_m.Coming.Digest))) (13 : Int)).bind fun r11 =>
(update_when a1_f.Worn (5 : Int)).bind fun r13 =>
(update_one ({ (a0_m : MetaS) with Phase := 2 }) ([r5, r9, r11, r13] : List Int)).bind fun r16 =>
some r16

theorem c_update_verify (a0_m : MetaS) (a1_f : FactS) (r : ChangeS) (H : update_verify a0_m a1_f = some r) : Fn Tryd.prog 78 [(.agg (MetaS.cells a0_m).toArray), (.agg (FactS.cells a1_f).toArray)] [] [] (fun v D' G' => v = (.agg (ChangeS.cells r).toArray) ∧ D' = [] ∧ G' = []) := by
  unfold update_verify at H
  refine fn_of Tryd.func78 rfl Tryd.ntmps78 rfl ?_
  intro w0 D0 G0
  dsimp only [app, initEnv, Nat.zero_add, Nat.reduceAdd]
  refine s_seq ?_
  refine s_reg [0, 1, 2] rfl ?_
  refine oc (k_box rfl rfl rfl (cs := MetaS.cells a0_m) rfl (g0 rfl) rfl rfl ?_)
  intro b1
  refine oc (k_box rfl rfl rfl (cs := FactS.cells a1_f) rfl (g0 rfl) rfl rfl ?_)
  intro b2
  refine oc (k_alloc rfl rfl Tryd.zeroValue109 (cs := ChangeS.cells ChangeS.zero) rfl (g0 rfl) rfl rfl ?_)
  intro b3
  refine o_nil ?_
  refine q_then ?_
  refine s_seq ?_
  refine s_reg [0, 1, 2] rfl ?_
  refine o_ld (hG 2 rfl) rfl (ev_ldN (j := 0) rfl rfl Tryd.isAgg74 (sz (MetaS.len _) Tryd.sizeOf74) (sub_all _) rfl) (g0 rfl) rfl rfl ?_
  refine oc (k_alloc rfl rfl Tryd.zeroValue74 (cs := MetaS.cells MetaS.zero) rfl (g0 rfl) rfl rfl ?_)
  intro b4
  refine oc (k_st (j := 0) rfl rfl rfl rfl (vs := MetaS.cells a0_m) rfl (sz (MetaS.len _) Tryd.sizeOf74) (MetaS.sc _) 0 rfl (spl_all ((MetaS.len _).trans (MetaS.len _).symm)) rfl (g0 rfl) rfl ?_)
  refine o_nil ?_
  refine q_then ?_
  refine s_seq ?_
  refine s_reg [0, 1] rfl ?_
  refine o_pu rfl (ev_fieldAddr rfl rfl Tryd.runUnderlying74 rfl Tryd.sizeOf3 rfl rfl) (g0 rfl) rfl rfl ?_
  refine oc (k_st (j := 70) rfl rfl rfl rfl (vs := [vi 2]) rfl (sz rfl Tryd.sizeOf3) rfl 0 rfl (MetaS.set_Phase _ 2) rfl (g0 rfl) rfl ?_)
  refine o_nil ?_
  refine q_then ?_
  refine s_seq ?_
  refine s_draw mixed [(0, [24, 25], Has b4 0 (MetaS.cells ({ (a0_m : MetaS) with Phase := 2 }))), (2, [25], Has b1 0 (MetaS.cells a0_m)), (6, [25], Has b1 0 (MetaS.cells a0_m)), (9, [10, 25], Has b1 0 (MetaS.cells a0_m)), (14, [25], Has b2 0 (FactS.cells a1_f)), (17, [25], Has b1 0 (MetaS.cells a0_m)), (21, [22, 25], Has b2 0 (FactS.cells a1_f))] ?_
  refine a_ld 0 0 rfl rfl (ev_ldN (j := 0) rfl rfl Tryd.isAgg74 (sz (MetaS.len _) Tryd.sizeOf74) (sub_all _) rfl) (by kernel_rfl) (by rfl) (by kernel_rfl) (by kernel_rfl) (by kernel_rfl) (by kernel_rfl) (fun _ _ _ h => h) (g0 rfl) rfl rfl ?_
  refine a_pu 1 rfl (ev_fieldAddr rfl rfl Tryd.runUnderlying74 rfl Tryd.sizeOf3 rfl rfl) (by rfl) (by kernel_rfl) (by kernel_rfl) (by kernel_rfl) (fun _ _ _ h => h) (g0 rfl) rfl rfl ?_
  refine a_ld 2 1 rfl rfl (ev_ld1 (j := 70) rfl rfl Tryd.isAgg3 (MetaS.sub_Phase _) rfl) (by kernel_rfl) (by rfl) (by kernel_rfl) (by kernel_rfl) (by kernel_rfl) (by kernel_rfl) (fun _ _ _ h => h) (g0 rfl) rfl rfl ?_
  refine a_pu 3 rfl (ev_bin rfl rfl rfl rfl (neq_i _ 1)) (by rfl) (by kernel_rfl) (by kernel_rfl) (by kernel_rfl) (fun _ _ _ h => h) (g0 rfl) rfl rfl ?_
  refine a_pu 5 rfl (ev_fieldAddr rfl rfl Tryd.runUnderlying74 rfl Tryd.sizeOf3 rfl rfl) (by rfl) (by kernel_rfl) (by kernel_rfl) (by kernel_rfl) (fun _ _ _ h => h) (g0 rfl) rfl rfl ?_
  refine a_ld 6 2 rfl rfl (ev_ld1 (j := 105) rfl rfl Tryd.isAgg3 (MetaS.sub_Got _) rfl) (by kernel_rfl) (by rfl) (by kernel_rfl) (by kernel_rfl) (by kernel_rfl) (by kernel_rfl) (fun _ _ _ h => h) (g0 rfl) rfl rfl ?_
  refine a_pu 7 rfl (ev_fieldAddr rfl rfl Tryd.runUnderlying74 rfl Tryd.sizeOf71 rfl rfl) (by rfl) (by kernel_rfl) (by kernel_rfl) (by kernel_rfl) (fun _ _ _ h => h) (g0 rfl) rfl rfl ?_
  refine a_pu 8 rfl (ev_fieldAddr rfl rfl Tryd.runUnderlying71 rfl Tryd.sizeOf3 rfl rfl) (by rfl) (by kernel_rfl) (by kernel_rfl) (by kernel_rfl) (fun _ _ _ h => h) (g0 rfl) rfl rfl ?_
  refine a_ld 9 3 rfl rfl (ev_ld1 (j := 72) rfl rfl Tryd.isAgg3 (sub_sub (MetaS.sub_Coming _) (Img.sub_Size _) rfl) rfl) (by kernel_rfl) (by rfl) (by kernel_rfl) (by kernel_rfl) (by kernel_rfl) (by kernel_rfl) (fun _ _ _ h => h) (g0 rfl) rfl rfl ?_
  refine a_pu 13 rfl (ev_fieldAddr rfl rfl Tryd.runUnderlying86 rfl Tryd.sizeOf69 rfl rfl) (by rfl) (by kernel_rfl) (by kernel_rfl) (by kernel_rfl) (fun _ _ _ h => h) (g0 rfl) rfl rfl ?_
  refine a_ld 14 4 rfl rfl (ev_ldN (j := 2) rfl rfl Tryd.isAgg69 (sz (arr_len E8_len _ rfl) Tryd.sizeOf69) (FactS.sub_Digest _) rfl) (by kernel_rfl) (by rfl) (by kernel_rfl) (by kernel_rfl) (by kernel_rfl) (by kernel_rfl) (fun _ _ _ h => h) (g0 rfl) rfl rfl ?_
  refine a_pu 15 rfl (ev_fieldAddr rfl rfl Tryd.runUnderlying74 rfl Tryd.sizeOf71 rfl rfl) (by rfl) (by kernel_rfl) (by kernel_rfl) (by kernel_rfl) (fun _ _ _ h => h) (g0 rfl) rfl rfl ?_
  refine a_pu 16 rfl (ev_fieldAddr rfl rfl Tryd.runUnderlying71 rfl Tryd.sizeOf69 rfl rfl) (by rfl) (by kernel_rfl) (by kernel_rfl) (by kernel_rfl) (fun _ _ _ h => h) (g0 rfl) rfl rfl ?_
  refine a_ld 17 5 rfl rfl (ev_ldN (j := 73) rfl rfl Tryd.isAgg69 (sz (arr_len E8_len _ rfl) Tryd.sizeOf69) (sub_sub (MetaS.sub_Coming _) (Img.sub_Digest _) rfl) rfl) (by kernel_rfl) (by rfl) (by kernel_rfl) (by kernel_rfl) (by kernel_rfl) (by kernel_rfl) (fun _ _ _ h => h) (g0 rfl) rfl rfl ?_
  refine a_pu 18 rfl (ev_neA (f := (fun a : Arr UInt8 32 => a.l.flatMap E8)) (X := a1_f.Digest) (Y := a0_m.Coming.Digest) rfl rfl rfl eqT69 rfl Tryd.isAgg69 Tryd.sizeOf69 (fun a => arr_len E8_len a rfl) eqG69) (by rfl) (by kernel_rfl) (by kernel_rfl) (by kernel_rfl) (fun _ _ _ h => h) (g0 rfl) rfl rfl ?_
  refine a_pu 20 rfl (ev_fieldAddr rfl rfl Tryd.runUnderlying86 rfl Tryd.sizeOf4 rfl rfl) (by rfl) (by kernel_rfl) (by kernel_rfl) (by kernel_rfl) (fun _ _ _ h => h) (g0 rfl) rfl rfl ?_
  refine a_ld 21 6 rfl rfl (ev_ld1 (j := 34) rfl rfl Tryd.isAgg4 (FactS.sub_Worn _) rfl) (by kernel_rfl) (by rfl) (by kernel_rfl) (by kernel_rfl) (by kernel_rfl) (by kernel_rfl) (fun _ _ _ h => h) (g0 rfl) rfl rfl ?_
  refine ac 4 (by kernel_rfl) (sl_cons (hG 0 rfl) (sl_cons (hG 3 rfl) (sl_cons (hG 3 rfl) (sl_cons (hG 3 rfl) (sl_cons (hG 2 rfl) (sl_cons (hG 3 rfl) (sl_cons (hG 2 rfl) sl_nil))))))) ?_
  obtain ⟨r5, Hc6, H⟩ := bind_some' H
  refine k_call (c_update_when (a0_m.Phase != 1) 11 r5 Hc6) Tryd.call108 rfl rfl rfl [] [] rfl rfl (g0 rfl) rfl rfl ?_
  rintro _ _ _ ⟨rfl, rfl, rfl⟩
  dsimp only [app]
  refine ac 10 (by kernel_rfl) (sl_cons (hG 0 rfl) (sl_cons (hG 3 rfl) (sl_cons (hG 3 rfl) (sl_cons (hG 3 rfl) (sl_cons (hG 2 rfl) (sl_cons (hG 3 rfl) (sl_cons (hG 2 rfl) sl_nil))))))) ?_
  obtain ⟨r7, Hc8, H⟩ := bind_some' H
  refine k_call (c_update_Chunks a0_m.Coming.Size r7 Hc8) Tryd.call110 rfl rfl rfl [] [] rfl rfl (g0 rfl) rfl rfl ?_
  rintro _ _ _ ⟨rfl, rfl, rfl⟩
  dsimp only [app]
  refine a_pu 11 rfl (ev_bin rfl rfl rfl rfl (lss_i _ _)) (by rfl) (by kernel_rfl) (by kernel_rfl) (by kernel_rfl) (fun _ _ _ h => h) (g0 rfl) rfl rfl ?_
  refine ac 12 (by kernel_rfl) (sl_cons (hG 0 rfl) (sl_cons (hG 3 rfl) (sl_cons (hG 3 rfl) (sl_end (by kernel_rfl) (sl_cons (hG 2 rfl) (sl_cons (hG 3 rfl) (sl_cons (hG 2 rfl) sl_nil))))))) ?_
  obtain ⟨r9, Hc10, H⟩ := bind_some' H
  refine k_call (c_update_when (decide (a0_m.Got < r7)) 12 r9 Hc10) Tryd.call108 rfl rfl rfl [] [] rfl rfl (g0 rfl) rfl rfl ?_
  rintro _ _ _ ⟨rfl, rfl, rfl⟩
  dsimp only [app]
  refine ac 19 (by kernel_rfl) (sl_cons (hG 0 rfl) (sl_cons (hG 3 rfl) (sl_cons (hG 3 rfl) (sl_end (by kernel_rfl) (sl_cons (hG 2 rfl) (sl_cons (hG 3 rfl) (sl_cons (hG 2 rfl) sl_nil))))))) ?_
  obtain ⟨r11, Hc12, H⟩ := bind_some' H
  refine k_call (c_update_when (!(decide (a1_f.Digest = a0_m.Coming.Digest))) 13 r11 Hc12) Tryd.call108 rfl rfl rfl [] [] rfl rfl (g0 rfl) rfl rfl ?_
  rintro _ _ _ ⟨rfl, rfl, rfl⟩
  dsimp only [app]
  refine ac 22 (by kernel_rfl) (sl_cons (hG 0 rfl) (sl_cons (hG 3 rfl) (sl_cons (hG 3 rfl) (sl_end (by kernel_rfl) (sl_cons (hG 2 rfl) (sl_cons (hG 3 rfl) (sl_cons (hG 2 rfl) sl_nil))))))) ?_
  obtain ⟨r13, Hc14, H⟩ := bind_some' H
  refine k_call (c_update_when a1_f.Worn 5 r13 Hc14) Tryd.call108 rfl rfl rfl [] [] rfl rfl (g0 rfl) rfl rfl ?_
  rintro _ _ _ ⟨rfl, rfl, rfl⟩
  dsimp only [app]
  refine ac 23 (by kernel_rfl) (sl_cons (hG 0 rfl) (sl_cons (hG 3 rfl) (sl_cons (hG 3 rfl) (sl_end (by kernel_rfl) (sl_cons (hG 2 rfl) (sl_cons (hG 3 rfl) (sl_end (by kernel_rfl) sl_nil))))))) ?_
  refine k_buildSlice (f := Ei) ([r5, r9, r11, r13] : List Int) rfl rfl rfl rfl Tryd.runUnderlying176 Tryd.sizeOf24 Tryd.zeroValue24 rfl rfl (fill_all rfl rfl (by simp) rfl rfl) (g0 rfl) rfl rfl ?_
  intro b15
  refine ac 24 (by kernel_rfl) (sl_cons (hG 0 rfl) (sl_cons (hG 3 rfl) (sl_cons (hG 3 rfl) (sl_end (by kernel_rfl) (sl_cons (hG 2 rfl) (sl_cons (hG 3 rfl) (sl_end (by kernel_rfl) sl_nil))))))) ?_
  obtain ⟨r16, Hc17, H⟩ := bind_some' H
  refine k_call (c_update_one ({ (a0_m : MetaS) with Phase := 2 }) ([r5, r9, r11, r13] : List Int) (some ⟨b15, 0, none⟩) 4 r16 Hc17) Tryd.call107 rfl rfl rfl [0] [] rfl rfl (g0 rfl) rfl rfl ?_
  rintro _ _ _ ⟨rfl, rfl, rfl⟩
  dsimp only [app]
  refine ac 25 (by kernel_rfl) (sl_end (by kernel_rfl) (sl_cons (hG 3 rfl) (sl_cons (hG 3 rfl) (sl_end (by kernel_rfl) (sl_cons (hG 2 rfl) (sl_cons (hG 3 rfl) (sl_end (by kernel_rfl) sl_nil))))))) ?_
  refine k_st (j := 0) rfl rfl rfl rfl (vs := ChangeS.cells r16) rfl (sz (ChangeS.len _) Tryd.sizeOf109) (ChangeS.sc _) 1 rfl (spl_all ((ChangeS.len _).trans (ChangeS.len _).symm)) rfl (g0 rfl) rfl ?_
  refine a_done (by kernel_rfl) (sl_end (by kernel_rfl) (sl_end (by kernel_rfl) (sl_end (by kernel_rfl) (sl_end (by kernel_rfl) (sl_end (by kernel_rfl) (sl_end (by kernel_rfl) (sl_end (by kernel_rfl) sl_nil))))))) ?_
  refine q_then ?_
  refine s_ret ?_
  cases H
  exact q_end (rs_1 Tryd.results78 (rv_cell (j := 0) rfl (hG 1 rfl) Tryd.isAgg109 (sz (ChangeS.len _) Tryd.sizeOf109) (sub_all _) rfl)) ⟨rfl, rfl, rfl⟩ [] rfl 1 rfl [] rfl 4 rfl

def turn_Right (a0_x : UInt32) (a1_n : Int) : Option UInt32 :=
(math_bits_RotateLeft32 a0_x (wrap64 (-a1_n))).bind fun r1 =>
some r1

theorem c_turn_Right (a0_x : UInt32) (a1_n : Int) (r : UInt32) (H : turn_Right a0_x a1_n = some r) : Fn Tryd.prog 125 [(v32 a0_x), (vi a1_n)] [] [] (fun v D' G' => v = (v32 r) ∧ D' = [] ∧ G' = []) := by
  unfold turn_Right at H
  refine fn_of Tryd.func125 rfl Tryd.ntmps125 rfl ?_
  intro w0 D0 G0
  dsimp only [app, initEnv, Nat.zero_add, Nat.reduceAdd]
  refine s_seq ?_
  refine s_reg [0] rfl ?_
  refine o_pu rfl (ev_assign rfl rfl) (g0 rfl) rfl rfl ?_
  refine o_nil ?_
  refine q_then ?_
  refine s_seq ?_
  refine s_reg [0, 1, 2, 3, 4] rfl ?_
  refine o_pu rfl (ev_move rfl rfl) (g0 rfl) rfl rfl ?_
  refine o_pu rfl (ev_move rfl rfl) (g0 rfl) rfl rfl ?_
  refine o_pu rfl (ev_un rfl rfl (neg_i _)) (g0 rfl) rfl rfl ?_
  obtain ⟨r1, Hc2, H⟩ := bind_some' H
  refine oc (k_call (c_math_bits_RotateLeft32 a0_x (wrap64 (-a1_n)) r1 Hc2) Tryd.call134 rfl rfl rfl [] [] rfl rfl (g0 rfl) rfl rfl ?_)
  rintro _ _ _ ⟨rfl, rfl, rfl⟩
  dsimp only [app]
  refine o_pu rfl (ev_assign rfl rfl) (g0 rfl) rfl rfl ?_
  refine o_nil ?_
  refine q_then ?_
  refine s_ret ?_
  cases H
  exact q_end (rs_1 Tryd.results125 (rv_tmp rfl)) ⟨rfl, rfl, rfl⟩ [] rfl 0 rfl [] rfl 0 rfl

end Go.Proofs.YtphbbnlbfbhcaaaDoor.Wl
