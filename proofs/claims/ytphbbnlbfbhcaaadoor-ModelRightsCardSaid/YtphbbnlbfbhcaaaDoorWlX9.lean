import Derived.Test.YtphbbnlbfbhcaaaDoorWlW
import Derived.Test.YtphbbnlbfbhcaaaDoorWlX0
import Derived.Test.YtphbbnlbfbhcaaaDoorWlX2
import Derived.Test.YtphbbnlbfbhcaaaDoorWlX4
import Derived.Test.YtphbbnlbfbhcaaaDoorWlX5
import Derived.Test.YtphbbnlbfbhcaaaDoorWlX8
set_option linter.unusedSimpArgs false
set_option linter.unusedVariables false
set_option maxRecDepth 10000
namespace Go.Proofs.YtphbbnlbfbhcaaaDoor.Wl
open Go.RowKit Go.Proofs
def sha_Stream_Write_l0 (J10 : (List UInt8 × Arr UInt32 8) → Option StreamS) : Nat → (List UInt8 × Arr UInt32 8) → Option StreamS
  | 0, _ => none
  | k17 + 1, s17 =>
    bif (decide ((s17.1.length : Int) ≥ 64)) then (
    chk (0 ≤ (0 : Int) ∧ (0 : Int) ≤ (64 : Int) ∧ (64 : Int) ≤ (s17.1.length : Int)) <|
    (sha_mix s17.2 (slc s17.1 (0 : Int) (64 : Int))).bind fun r23 =>
    chk (0 ≤ (64 : Int) ∧ (64 : Int) ≤ (s17.1.length : Int) ∧ (s17.1.length : Int) ≤ (s17.1.length : Int)) <|
    sha_Stream_Write_l0 J10 k17 ((slc s17.1 (64 : Int) (s17.1.length : Int)), r23)) else (
    J10 (s17.1, s17.2))

def sha_Stream_Write (a0_s : StreamS) (a1_b : List UInt8) : Option StreamS :=
(slices_Concat ([a0_s.rest, a1_b] : List (List UInt8))).bind fun r6 =>
jn (fun (x11 : List UInt8 × Arr UInt32 8) =>
(slices_Clone x11.1).bind fun r13 =>
some (⟨x11.2, (a0_s.count + (UInt64.ofInt (a1_b.length : Int))), r13⟩ : StreamS)) fun J10 =>
sha_Stream_Write_l0 J10 Fuel (r6, a0_s.h)

theorem c_sha_Stream_Write (a0_sp : Nat) (a0_s : StreamS) (A1 : Option Addr) (c2 : Nat) (a1_b : List UInt8) (A3 : Option Addr) (c4 : Nat) (r : StreamS) (H : sha_Stream_Write a0_s a1_b = some r) : Fn Tryd.prog 52 [(.pointer (some ⟨a0_sp, 0, none⟩)), (.slice A3 a1_b.length c4)] [Sl E8 A3 c4 a1_b, Sl E8 A1 c2 a0_s.rest] [At a0_sp 0 (a0_s.h.l.flatMap E32 ++ ([v64 a0_s.count, .slice A1 a0_s.rest.length c2]))] (fun v D' G' => ∃ (A28 : Option Addr) (c29 : Nat), v = (.tuple #[]) ∧ D' = [Sl E8 A28 c29 r.rest] ∧ G' = [At a0_sp 0 (r.h.l.flatMap E32 ++ ([v64 r.count, .slice A28 r.rest.length c29]))]) := by
  unfold sha_Stream_Write at H
  refine fn_of Tryd.func52 rfl Tryd.ntmps52 rfl ?_
  intro w0 D0 G0
  dsimp only [app, initEnv, Nat.zero_add, Nat.reduceAdd]
  refine s_seq ?_
  refine s_seq ?_
  refine s_reg [0, 1] rfl ?_
  refine o_pu rfl (ev_move rfl rfl) (g0 rfl) rfl rfl ?_
  refine o_pu rfl (ev_bin rfl rfl rfl rfl (eql_ptr_pn Tryd.runUnderlying103)) (g0 rfl) rfl rfl ?_
  refine o_nil ?_
  refine q_then ?_
  refine s_cond_f rfl ?_
  refine s_skip ?_
  refine q_then ?_
  refine s_seq ?_
  refine s_reg [0, 1, 2, 3, 4, 5, 6, 7, 8, 9, 10] rfl ?_
  refine o_pu rfl (ev_move rfl rfl) (g0 rfl) rfl rfl ?_
  refine o_pu rfl (ev_nilCheck rfl rfl) (g0 rfl) rfl rfl ?_
  refine o_pu rfl (ev_fieldAddr rfl rfl Tryd.runUnderlying133 rfl Tryd.sizeOf127 rfl rfl) (g0 rfl) rfl rfl ?_
  refine o_ld (hG 0 rfl) rfl (ev_ld1 (j := 8) rfl rfl Tryd.isAgg127 (sub_skip (n := 8) (sub_nth (j := 0) rfl) (arr_len E32_len _ rfl) rfl) rfl) (g0 rfl) rfl rfl ?_
  refine o_pu rfl (ev_move rfl rfl) (g0 rfl) rfl rfl ?_
  refine o_pu rfl (ev_len_slice rfl rfl Tryd.runUnderlying32) (g0 rfl) rfl rfl ?_
  refine o_pu rfl (ev_conv rfl rfl (conv_i_u64 _ Tryd.runUnderlying3 Tryd.runUnderlying127)) (g0 rfl) rfl rfl ?_
  refine o_pu rfl (ev_bin rfl rfl rfl rfl (add_64 _ _)) (g0 rfl) rfl rfl ?_
  refine o_pu rfl (ev_nilCheck rfl rfl) (g0 rfl) rfl rfl ?_
  refine o_pu rfl (ev_fieldAddr rfl rfl Tryd.runUnderlying133 rfl Tryd.sizeOf127 rfl rfl) (g0 rfl) rfl rfl ?_
  refine oc (k_st (j := 8) rfl rfl rfl rfl (vs := [v64 (a0_s.count + (UInt64.ofInt (a1_b.length : Int)))]) rfl (sz rfl Tryd.sizeOf127) rfl 0 rfl (spl_skip (n := 8) (spl_lit (j := 0) (cs' := [v64 (a0_s.count + (UInt64.ofInt (a1_b.length : Int))), .slice A1 a0_s.rest.length c2]) rfl rfl) (arr_len E32_len _ rfl) rfl) rfl (g0 rfl) rfl ?_)
  refine o_nil ?_
  refine q_then ?_
  refine s_seq ?_
  refine s_reg [0, 1, 2, 3, 4, 5, 6, 7] rfl ?_
  refine o_pu rfl (ev_move rfl rfl) (g0 rfl) rfl rfl ?_
  refine o_pu rfl (ev_nilCheck rfl rfl) (g0 rfl) rfl rfl ?_
  refine o_pu rfl (ev_fieldAddr rfl rfl Tryd.runUnderlying133 rfl Tryd.sizeOf32 rfl rfl) (g0 rfl) rfl rfl ?_
  refine o_ld (hG 0 rfl) rfl (ev_ld1 (j := 9) rfl rfl Tryd.isAgg32 (sub_skip (n := 8) (sub_nth (j := 1) rfl) (arr_len E32_len _ rfl) rfl) rfl) (g0 rfl) rfl rfl ?_
  refine o_pu rfl (ev_move rfl rfl) (g0 rfl) rfl rfl ?_
  refine oc (k_buildSlice (f := EV) [.slice A1 a0_s.rest.length c2, .slice A3 a1_b.length c4] rfl rfl rfl rfl Tryd.runUnderlying150 Tryd.sizeOf32 Tryd.zeroValue32 rfl rfl (fill_all rfl rfl (by simp) rfl rfl) (g0 rfl) rfl rfl ?_)
  intro b5
  refine k_sls [(A1, c2, a0_s.rest), (A3, c4, a1_b)] 0 rfl [2, 1] rfl ?_
  obtain ⟨r6, Hc7, H⟩ := bind_some' H
  refine oc (k_call (c_slices_Concat ([a0_s.rest, a1_b] : List (List UInt8)) (some ⟨b5, 0, none⟩) 2 r6 Hc7) Tryd.call69 rfl rfl rfl [0] [] rfl rfl (g0 rfl) rfl rfl ?_)
  rintro _ _ _ ⟨A8, c9, rfl, rfl, rfl⟩
  dsimp only [app]
  refine o_pu rfl (ev_assign rfl rfl) (g0 rfl) rfl rfl ?_
  refine o_nil ?_
  refine q_then ?_
  refine s_seq ?_
  refine q_join (fun (x11 : List UInt8 × Arr UInt32 8) (y12 : Option Addr × Nat) => ⟨Sl E8 y12.1 y12.2 x11.1 :: Sl E8 A8 c9 r6 :: Sls (some ⟨b5, 0, none⟩) 2 ([a0_s.rest, a1_b] : List (List UInt8)) :: Sl EV (some ⟨b5, 0, none⟩) 2 [.slice A1 a0_s.rest.length c2, .slice A3 a1_b.length c4] :: Sl E8 A3 c4 a1_b :: Sl E8 A1 c2 a0_s.rest :: D0, At a0_sp 0 (x11.2.l.flatMap E32 ++ ([v64 (a0_s.count + (UInt64.ofInt (a1_b.length : Int))), .slice A1 a0_s.rest.length c2])) :: Spare A8 r6.length c9 1 :: G0, [(0, (.pointer (some ⟨a0_sp, 0, none⟩))), (4, (.slice y12.1 x11.1.length y12.2))]⟩) H ?_ ?_
  · intro x11 y12 H
    dsimp only
    refine q_then ?_
    refine s_reg [0, 1, 2, 3, 4, 5] rfl ?_
    refine o_pu rfl (ev_move rfl rfl) (g0 rfl) rfl rfl ?_
    refine o_pu rfl (ev_move rfl rfl) (g0 rfl) rfl rfl ?_
    obtain ⟨r13, Hc14, H⟩ := bind_some' H
    refine oc (k_call (c_slices_Clone x11.1 y12.1 y12.2 r13 Hc14) Tryd.call30 rfl rfl rfl [0] [] rfl rfl (g0 rfl) rfl rfl ?_)
    rintro _ _ _ ⟨A15, c16, rfl, rfl, rfl⟩
    dsimp only [app]
    refine o_pu rfl (ev_nilCheck rfl rfl) (g0 rfl) rfl rfl ?_
    refine o_pu rfl (ev_fieldAddr rfl rfl Tryd.runUnderlying133 rfl Tryd.sizeOf32 rfl rfl) (g0 rfl) rfl rfl ?_
    refine oc (k_st (j := 9) rfl rfl rfl rfl (vs := [.slice A15 r13.length c16]) rfl (sz rfl Tryd.sizeOf32) rfl 1 rfl (spl_skip (n := 8) (spl_lit (j := 1) (cs' := [v64 (a0_s.count + (UInt64.ofInt (a1_b.length : Int))), .slice A15 r13.length c16]) rfl rfl) (arr_len E32_len _ rfl) rfl) rfl (g0 rfl) rfl ?_)
    refine o_nil ?_
    cases H
    exact q_end_n (rs_0 Tryd.results52) ⟨A15, c16, rfl, rfl, rfl⟩ [0] rfl 7 rfl [1] rfl 2 rfl
  · intro J10 H
    refine s_block ?_
    refine s_loop (k_wk (loop_ind (fun (s17 : List UInt8 × Arr UInt32 8) (y17 : Option Addr × Nat) => ⟨Sl E8 y17.1 y17.2 s17.1 :: Sl E8 A8 c9 r6 :: Sls (some ⟨b5, 0, none⟩) 2 ([a0_s.rest, a1_b] : List (List UInt8)) :: Sl EV (some ⟨b5, 0, none⟩) 2 [.slice A1 a0_s.rest.length c2, .slice A3 a1_b.length c4] :: Sl E8 A3 c4 a1_b :: Sl E8 A1 c2 a0_s.rest :: D0, At a0_sp 0 (s17.2.l.flatMap E32 ++ ([v64 (a0_s.count + (UInt64.ofInt (a1_b.length : Int))), .slice A1 a0_s.rest.length c2])) :: Spare A8 r6.length c9 1 :: G0, [(0, (.pointer (some ⟨a0_sp, 0, none⟩))), (4, (.slice y17.1 s17.1.length y17.2))]⟩) (sha_Stream_Write_l0 _) _ (fun _ => rfl) ?_ Fuel (r6, a0_s.h) (A8, c9) H) [0, 4] [0, 0, 1, 2, 3, 4] 5 [1, 0] 0 rfl rfl rfl)
    intro k17 s17 y17 ih H
    dsimp only
    rw [sha_Stream_Write_l0] at H
    refine s_seq ?_
    refine s_seq ?_
    refine s_reg [0, 1, 2] rfl ?_
    refine o_pu rfl (ev_move rfl rfl) (g0 rfl) rfl rfl ?_
    refine o_pu rfl (ev_len_slice rfl rfl Tryd.runUnderlying32) (g0 rfl) rfl rfl ?_
    refine o_pu rfl (ev_bin rfl rfl rfl rfl (geq_i _ 64)) (g0 rfl) rfl rfl ?_
    refine o_nil ?_
    refine q_then ?_
    refine s_cond rfl ?_ ?_
    · intro hb18
      have H := cnd_t H hb18
      refine s_skip ?_
      refine q_then ?_
      refine s_seq ?_
      refine s_block ?_
      obtain ⟨hk22, H⟩ := chk_some H
      refine k_sub (a := (0 : Int)) (b := (64 : Int)) 0 rfl E8_len hk22 ?_
      intro A19 c20 hA21
      refine s_draw mixed [(4, [7, 10], Has a0_sp 0 (s17.2.l.flatMap E32 ++ ([v64 (a0_s.count + (UInt64.ofInt (a1_b.length : Int))), .slice A1 a0_s.rest.length c2])))] ?_
      refine a_pu 0 rfl (ev_move rfl rfl) (by rfl) (by kernel_rfl) (by kernel_rfl) (by kernel_rfl) (fun _ _ _ h => h) (g0 rfl) rfl rfl ?_
      refine a_pu 1 rfl (ev_move rfl rfl) (by rfl) (by kernel_rfl) (by kernel_rfl) (by kernel_rfl) (fun _ _ _ h => h) (g0 rfl) rfl rfl ?_
      refine a_pu 2 rfl (ev_nilCheck rfl rfl) (by rfl) (by kernel_rfl) (by kernel_rfl) (by kernel_rfl) (fun _ _ _ h => h) (g0 rfl) rfl rfl ?_
      refine a_pu 3 rfl (ev_fieldAddr rfl rfl Tryd.runUnderlying133 rfl Tryd.sizeOf130 rfl rfl) (by rfl) (by kernel_rfl) (by kernel_rfl) (by kernel_rfl) (fun _ _ _ h => h) (g0 rfl) rfl rfl ?_
      refine a_ld 4 0 rfl rfl (ev_ldN (j := 0) rfl rfl Tryd.isAgg130 (sz (arr_len E32_len _ rfl) Tryd.sizeOf130) (sub_head (sub_all _)) rfl) (by kernel_rfl) (by rfl) (by kernel_rfl) (by kernel_rfl) (by kernel_rfl) (by kernel_rfl) (fun _ _ _ h => h) (g0 rfl) rfl rfl ?_
      refine a_pu 5 rfl (ev_move rfl rfl) (by rfl) (by kernel_rfl) (by kernel_rfl) (by kernel_rfl) (fun _ _ _ h => h) (g0 rfl) rfl rfl ?_
      refine a_pu 6 rfl (ev_slice_sl (ka := .i64) (a := (0 : Int)) (b := (64 : Int)) rfl rfl Tryd.runUnderlying32 Tryd.sizeOf5 (.inl ⟨rfl, rfl⟩) (.inr rfl) hk22 hA21) (by rfl) (by kernel_rfl) (by kernel_rfl) (by kernel_rfl) (fun _ _ _ h => h) (g0 rfl) rfl rfl ?_
      refine ac 7 (by kernel_rfl) (sl_cons (hG 0 rfl) sl_nil) ?_
      obtain ⟨r23, Hc24, H⟩ := bind_some' H
      refine k_call (c_sha_mix s17.2 (slc s17.1 (0 : Int) (64 : Int)) A19 c20 r23 Hc24) Tryd.call70 rfl rfl rfl [0] [] rfl rfl (g0 rfl) rfl rfl ?_
      rintro _ _ _ ⟨rfl, rfl, rfl⟩
      dsimp only [app]
      refine a_pu 8 rfl (ev_nilCheck rfl rfl) (by rfl) (by kernel_rfl) (by kernel_rfl) (by kernel_rfl) (fun _ _ _ h => h) (g0 rfl) rfl rfl ?_
      refine a_pu 9 rfl (ev_fieldAddr rfl rfl Tryd.runUnderlying133 rfl Tryd.sizeOf130 rfl rfl) (by rfl) (by kernel_rfl) (by kernel_rfl) (by kernel_rfl) (fun _ _ _ h => h) (g0 rfl) rfl rfl ?_
      refine ac 10 (by kernel_rfl) (sl_end (by kernel_rfl) sl_nil) ?_
      refine k_st (j := 0) rfl rfl rfl rfl (vs := r23.l.flatMap E32) rfl (sz (arr_len E32_len _ rfl) Tryd.sizeOf130) (arr_sc E32_one _) 0 rfl (spl_head (spl_all ((arr_len E32_len _ rfl).trans (arr_len E32_len _ rfl).symm))) rfl (g0 rfl) rfl ?_
      refine a_done (by kernel_rfl) (sl_end (by kernel_rfl) sl_nil) ?_
      refine q_block ?_
      refine q_then ?_
      refine s_reg [0, 1, 2] rfl ?_
      refine o_pu rfl (ev_move rfl rfl) (g0 rfl) rfl rfl ?_
      obtain ⟨hk27, H⟩ := chk_some H
      refine oc (k_slice (kb := .i64) (a := (64 : Int)) (b := (s17.1.length : Int)) 1 rfl rfl rfl rfl E8_len Tryd.runUnderlying32 Tryd.sizeOf5 (.inr rfl) (.inl ⟨rfl, rfl⟩) hk27 (g0 rfl) rfl rfl ?_)
      intro A25 c26
      refine o_pu rfl (ev_assign rfl rfl) (g0 rfl) rfl rfl ?_
      refine o_nil ?_
      refine q_loop ?_
      exact k_wk (ih ((slc s17.1 (64 : Int) (s17.1.length : Int)), r23) (A25, c26) H) [0, 4] [0, 3, 4, 5, 6, 7] 8 [0, 0] 0 rfl rfl rfl
    · intro hb18
      have H := cnd_f H hb18
      refine s_exit ?_
      refine q_then_x ?_
      refine q_then_x ?_
      refine q_block_x ?_
      exact k_wk (J10 (s17.1, s17.2) (y17.1, y17.2) H) [0, 4] [0, 1, 2, 3, 4, 5] 6 [0, 0] 0 rfl rfl rfl

def sha_Stream_Sum_l0 (J23 : (Arr UInt32 8) → Option (Arr UInt8 32)) : Nat → (List UInt8 × Arr UInt32 8) → Option (Arr UInt8 32)
  | 0, _ => none
  | k34 + 1, s34 =>
    bif (decide ((s34.1.length : Int) > 0)) then (
    chk (0 ≤ (0 : Int) ∧ (0 : Int) ≤ (64 : Int) ∧ (64 : Int) ≤ (s34.1.length : Int)) <|
    (sha_mix s34.2 (slc s34.1 (0 : Int) (64 : Int))).bind fun r40 =>
    chk (0 ≤ (64 : Int) ∧ (64 : Int) ≤ (s34.1.length : Int) ∧ (s34.1.length : Int) ≤ (s34.1.length : Int)) <|
    sha_Stream_Sum_l0 J23 k34 ((slc s34.1 (64 : Int) (s34.1.length : Int)), r40)) else (
    J23 s34.2)

def sha_Stream_Sum_l1 (J12 : (List UInt8) → Option (Arr UInt8 32)) : Nat → (List UInt8) → Option (Arr UInt8 32)
  | 0, _ => none
  | k45 + 1, s45 =>
    bif (((s45.length : Int).tmod 64) != 56) then (
    chk (s45.length + ([0] : List UInt8).length ≤ 68719476736) <|
    sha_Stream_Sum_l1 J12 k45 (s45 ++ ([0] : List UInt8))) else (
    J12 s45)

def sha_Stream_Sum (a0_s : StreamS) : Option (Arr UInt8 32) :=
(slices_Clone a0_s.rest).bind fun r4 =>
chk (r4.length + ([128] : List UInt8).length ≤ 68719476736) <|
jn (fun (x13 : List UInt8) =>
(sha_long (a0_s.count * (8 : UInt64))).bind fun r16 =>
chk (x13.length + r16.length ≤ 68719476736) <|
jn (fun (x24 : Arr UInt32 8) =>
(sha_told x24).bind fun r26 =>
chk (32 ≤ r26.length) <|
some (Arr.of 0 32 r26)) fun J23 =>
sha_Stream_Sum_l0 J23 Fuel ((x13 ++ r16), a0_s.h)) fun J12 =>
sha_Stream_Sum_l1 J12 Fuel (r4 ++ ([128] : List UInt8))

theorem c_sha_Stream_Sum (a0_sp : Nat) (a0_s : StreamS) (A1 : Option Addr) (c2 : Nat) (r : (Arr UInt8 32)) (H : sha_Stream_Sum a0_s = some r) : Fn Tryd.prog 53 [(.pointer (some ⟨a0_sp, 0, none⟩))] [Sl E8 A1 c2 a0_s.rest] [At a0_sp 0 (a0_s.h.l.flatMap E32 ++ ([v64 a0_s.count, .slice A1 a0_s.rest.length c2]))] (fun v D' G' => v = (.agg (r.l.flatMap E8).toArray) ∧ D' = [] ∧ G' = [At a0_sp 0 (a0_s.h.l.flatMap E32 ++ ([v64 a0_s.count, .slice A1 a0_s.rest.length c2]))]) := by
  unfold sha_Stream_Sum at H
  refine fn_of Tryd.func53 rfl Tryd.ntmps53 rfl ?_
  intro w0 D0 G0
  dsimp only [app, initEnv, Nat.zero_add, Nat.reduceAdd]
  refine s_seq ?_
  refine s_reg [0] rfl ?_
  refine oc (k_alloc rfl rfl Tryd.zeroValue69 (cs := (Arr.zero 0 32 : Arr UInt8 32).l.flatMap E8) rfl (g0 rfl) rfl rfl ?_)
  intro b3
  refine o_nil ?_
  refine q_then ?_
  refine s_seq ?_
  refine s_seq ?_
  refine s_reg [0, 1] rfl ?_
  refine o_pu rfl (ev_move rfl rfl) (g0 rfl) rfl rfl ?_
  refine o_pu rfl (ev_bin rfl rfl rfl rfl (eql_ptr_pn Tryd.runUnderlying103)) (g0 rfl) rfl rfl ?_
  refine o_nil ?_
  refine q_then ?_
  refine s_cond_f rfl ?_
  refine s_skip ?_
  refine q_then ?_
  refine s_seq ?_
  refine s_reg [0, 1, 2, 3, 4, 5, 6, 7] rfl ?_
  refine o_pu rfl (ev_move rfl rfl) (g0 rfl) rfl rfl ?_
  refine o_pu rfl (ev_nilCheck rfl rfl) (g0 rfl) rfl rfl ?_
  refine o_pu rfl (ev_fieldAddr rfl rfl Tryd.runUnderlying133 rfl Tryd.sizeOf32 rfl rfl) (g0 rfl) rfl rfl ?_
  refine o_ld (hG 1 rfl) rfl (ev_ld1 (j := 9) rfl rfl Tryd.isAgg32 (sub_skip (n := 8) (sub_nth (j := 1) rfl) (arr_len E32_len _ rfl) rfl) rfl) (g0 rfl) rfl rfl ?_
  obtain ⟨r4, Hc5, H⟩ := bind_some' H
  refine oc (k_call (c_slices_Clone a0_s.rest A1 c2 r4 Hc5) Tryd.call30 rfl rfl rfl [0] [] rfl rfl (g0 rfl) rfl rfl ?_)
  rintro _ _ _ ⟨A6, c7, rfl, rfl, rfl⟩
  dsimp only [app]
  refine oc (k_buildSlice (f := E8) ([128] : List UInt8) rfl rfl rfl rfl Tryd.runUnderlying32 Tryd.sizeOf5 Tryd.zeroValue5 rfl rfl (fill_all rfl rfl (by simp) rfl rfl) (g0 rfl) rfl rfl ?_)
  intro b8
  obtain ⟨hk11, H⟩ := chk_some H
  refine oc (k_append 1 0 0 rfl rfl rfl rfl rfl rfl rfl E8_len E8_one Tryd.underlying32 Tryd.underlying32 info5 rfl rfl rfl rfl hk11 (g0 rfl) rfl rfl ?_)
  intro A9 c10
  refine o_pu rfl (ev_assign rfl rfl) (g0 rfl) rfl rfl ?_
  refine o_nil ?_
  refine q_then ?_
  refine s_seq ?_
  refine q_join (fun (x13 : List UInt8) (y14 : Option Addr × Nat) => ⟨Sl E8 y14.1 y14.2 x13 :: Sl E8 A9 c10 (r4 ++ ([128] : List UInt8)) :: Sl E8 (some ⟨b8, 0, none⟩) 1 ([128] : List UInt8) :: Sl E8 A6 c7 r4 :: Sl E8 A1 c2 a0_s.rest :: D0, At b3 0 ((Arr.zero 0 32 : Arr UInt8 32).l.flatMap E8) :: At a0_sp 0 (a0_s.h.l.flatMap E32 ++ ([v64 a0_s.count, .slice A1 a0_s.rest.length c2])) :: Spare y14.1 x13.length y14.2 1 :: G0, [(0, (.pointer (some ⟨a0_sp, 0, none⟩))), (2, (.pointer (some ⟨b3, 0, none⟩))), (3, (.slice y14.1 x13.length y14.2))]⟩) H ?_ ?_
  · intro x13 y14 H
    dsimp only
    refine q_then ?_
    refine s_seq ?_
    refine s_reg [0, 1, 2, 3, 4, 5] rfl ?_
    refine o_pu rfl (ev_move rfl rfl) (g0 rfl) rfl rfl ?_
    refine o_pu rfl (ev_nilCheck rfl rfl) (g0 rfl) rfl rfl ?_
    refine o_pu rfl (ev_fieldAddr rfl rfl Tryd.runUnderlying133 rfl Tryd.sizeOf130 rfl rfl) (g0 rfl) rfl rfl ?_
    refine o_ld (hG 1 rfl) rfl (ev_ldN (j := 0) rfl rfl Tryd.isAgg130 (sz (arr_len E32_len _ rfl) Tryd.sizeOf130) (sub_head (sub_all _)) rfl) (g0 rfl) rfl rfl ?_
    refine oc (k_alloc rfl rfl Tryd.zeroValue130 (cs := (Arr.zero 0 8 : Arr UInt32 8).l.flatMap E32) rfl (g0 rfl) rfl rfl ?_)
    intro b15
    refine oc (k_st (j := 0) rfl rfl rfl rfl (vs := a0_s.h.l.flatMap E32) rfl (sz (arr_len E32_len _ rfl) Tryd.sizeOf130) (arr_sc E32_one _) 0 rfl (spl_all ((arr_len E32_len _ rfl).trans (arr_len E32_len _ rfl).symm)) rfl (g0 rfl) rfl ?_)
    refine o_nil ?_
    refine q_then ?_
    refine s_seq ?_
    refine s_seq ?_
    refine s_reg [0, 1, 2, 3, 4, 5, 6, 7, 8] rfl ?_
    refine o_pu rfl (ev_move rfl rfl) (g0 rfl) rfl rfl ?_
    refine o_pu rfl (ev_move rfl rfl) (g0 rfl) rfl rfl ?_
    refine o_pu rfl (ev_nilCheck rfl rfl) (g0 rfl) rfl rfl ?_
    refine o_pu rfl (ev_fieldAddr rfl rfl Tryd.runUnderlying133 rfl Tryd.sizeOf127 rfl rfl) (g0 rfl) rfl rfl ?_
    refine o_ld (hG 2 rfl) rfl (ev_ld1 (j := 8) rfl rfl Tryd.isAgg127 (sub_skip (n := 8) (sub_nth (j := 0) rfl) (arr_len E32_len _ rfl) rfl) rfl) (g0 rfl) rfl rfl ?_
    refine o_pu rfl (ev_bin rfl rfl rfl rfl (mul_64 _ 8)) (g0 rfl) rfl rfl ?_
    obtain ⟨r16, Hc17, H⟩ := bind_some' H
    refine oc (k_call (c_sha_long (a0_s.count * (8 : UInt64)) r16 Hc17) Tryd.call71 rfl rfl rfl [] [] rfl rfl (g0 rfl) rfl rfl ?_)
    rintro _ _ _ ⟨A18, c19, rfl, rfl, rfl⟩
    dsimp only [app]
    obtain ⟨hk22, H⟩ := chk_some H
    refine oc (k_append 1 0 4 rfl rfl rfl rfl rfl rfl rfl E8_len E8_one Tryd.underlying32 Tryd.underlying32 info5 rfl rfl rfl rfl hk22 (g0 rfl) rfl rfl ?_)
    intro A20 c21
    refine o_pu rfl (ev_assign rfl rfl) (g0 rfl) rfl rfl ?_
    refine o_nil ?_
    refine q_then ?_
    refine q_join (fun (x24 : Arr UInt32 8) (y25 : Unit) => ⟨Sl E8 A20 c21 (x13 ++ r16) :: Sl E8 A18 c19 r16 :: Sl E8 y14.1 y14.2 x13 :: Sl E8 A9 c10 (r4 ++ ([128] : List UInt8)) :: Sl E8 (some ⟨b8, 0, none⟩) 1 ([128] : List UInt8) :: Sl E8 A6 c7 r4 :: Sl E8 A1 c2 a0_s.rest :: D0, At b15 0 (x24.l.flatMap E32) :: At b3 0 ((Arr.zero 0 32 : Arr UInt8 32).l.flatMap E8) :: At a0_sp 0 (a0_s.h.l.flatMap E32 ++ ([v64 a0_s.count, .slice A1 a0_s.rest.length c2])) :: Spare A18 r16.length c19 1 :: Spare A20 (x13 ++ r16).length c21 1 :: G0, [(2, (.pointer (some ⟨b3, 0, none⟩))), (4, (.pointer (some ⟨b15, 0, none⟩)))]⟩) H ?_ ?_
    · intro x24 y25 H
      dsimp only
      refine q_then ?_
      refine s_seq ?_
      refine s_reg [0, 1, 2, 3, 4] rfl ?_
      refine o_ld (hG 0 rfl) rfl (ev_ldN (j := 0) rfl rfl Tryd.isAgg130 (sz (arr_len E32_len _ rfl) Tryd.sizeOf130) (sub_all _) rfl) (g0 rfl) rfl rfl ?_
      obtain ⟨r26, Hc27, H⟩ := bind_some' H
      refine oc (k_call (c_sha_told x24 r26 Hc27) Tryd.call72 rfl rfl rfl [] [] rfl rfl (g0 rfl) rfl rfl ?_)
      rintro _ _ _ ⟨A28, c29, rfl, rfl, rfl⟩
      dsimp only [app]
      obtain ⟨hk33, H⟩ := chk_some H
      refine k_sl_ro 0 rfl (ne_of_len (m := 32) E8_len rfl rfl hk33) ?_
      intro b30 q31 hA32
      refine o_pu rfl (ev_arrayAt rfl rfl Tryd.runUnderlying69 hk33) (g0 rfl) rfl rfl ?_
      refine k_eq (v' := .pointer (some ⟨b30, q31, none⟩)) 45 rfl (by rw [hA32]) ?_
      refine o_ld (hD 0 rfl) rfl (ev_ldN (j := 0) rfl rfl Tryd.isAgg69 (sz (arr_len E8_len _ rfl) Tryd.sizeOf69) (sub_of (m := 32) 0 _ hk33) rfl) (g0 rfl) rfl rfl ?_
      refine oc (k_st (j := 0) rfl rfl rfl rfl (vs := (Arr.of 0 32 r26).l.flatMap E8) rfl (sz (arr_len E8_len _ rfl) Tryd.sizeOf69) (arr_sc E8_one _) 2 rfl (spl_all ((arr_len E8_len _ rfl).trans (arr_len E8_len _ rfl).symm)) rfl (g0 rfl) rfl ?_)
      refine o_nil ?_
      refine q_then ?_
      refine s_ret ?_
      cases H
      exact q_end (rs_1 Tryd.results53 (rv_cell (j := 0) rfl (hG 2 rfl) Tryd.isAgg69 (sz (arr_len E8_len _ rfl) Tryd.sizeOf69) (sub_all _) rfl)) ⟨rfl, rfl, rfl⟩ [] rfl 9 rfl [3] rfl 5 rfl
    · intro J23 H
      refine s_block ?_
      refine s_loop (k_wk (loop_ind (fun (s34 : List UInt8 × Arr UInt32 8) (y34 : Option Addr × Nat) => ⟨Sl E8 y34.1 y34.2 s34.1 :: Sl E8 A20 c21 (x13 ++ r16) :: Sl E8 A18 c19 r16 :: Sl E8 y14.1 y14.2 x13 :: Sl E8 A9 c10 (r4 ++ ([128] : List UInt8)) :: Sl E8 (some ⟨b8, 0, none⟩) 1 ([128] : List UInt8) :: Sl E8 A6 c7 r4 :: Sl E8 A1 c2 a0_s.rest :: D0, At b15 0 (s34.2.l.flatMap E32) :: At b3 0 ((Arr.zero 0 32 : Arr UInt8 32).l.flatMap E8) :: At a0_sp 0 (a0_s.h.l.flatMap E32 ++ ([v64 a0_s.count, .slice A1 a0_s.rest.length c2])) :: Spare A18 r16.length c19 1 :: Spare A20 (x13 ++ r16).length c21 1 :: G0, [(2, (.pointer (some ⟨b3, 0, none⟩))), (3, (.slice y34.1 s34.1.length y34.2)), (4, (.pointer (some ⟨b15, 0, none⟩)))]⟩) (sha_Stream_Sum_l0 _) _ (fun _ => rfl) ?_ Fuel ((x13 ++ r16), a0_s.h) (A20, c21) H) [2, 3, 4] [0, 0, 1, 2, 3, 4, 5, 6] 7 [1, 1, 1, 0, 0] 0 rfl rfl rfl)
      intro k34 s34 y34 ih H
      dsimp only
      rw [sha_Stream_Sum_l0] at H
      refine s_seq ?_
      refine s_seq ?_
      refine s_reg [0, 1, 2] rfl ?_
      refine o_pu rfl (ev_move rfl rfl) (g0 rfl) rfl rfl ?_
      refine o_pu rfl (ev_len_slice rfl rfl Tryd.runUnderlying32) (g0 rfl) rfl rfl ?_
      refine o_pu rfl (ev_bin rfl rfl rfl rfl (gtr_i _ 0)) (g0 rfl) rfl rfl ?_
      refine o_nil ?_
      refine q_then ?_
      refine s_cond rfl ?_ ?_
      · intro hb35
        have H := cnd_t H hb35
        refine s_skip ?_
        refine q_then ?_
        refine s_seq ?_
        refine s_block ?_
        obtain ⟨hk39, H⟩ := chk_some H
        refine k_sub (a := (0 : Int)) (b := (64 : Int)) 0 rfl E8_len hk39 ?_
        intro A36 c37 hA38
        refine s_draw mixed [(0, [3, 4], Has b15 0 (s34.2.l.flatMap E32))] ?_
        refine a_ld 0 0 rfl rfl (ev_ldN (j := 0) rfl rfl Tryd.isAgg130 (sz (arr_len E32_len _ rfl) Tryd.sizeOf130) (sub_all _) rfl) (by kernel_rfl) (by rfl) (by kernel_rfl) (by kernel_rfl) (by kernel_rfl) (by kernel_rfl) (fun _ _ _ h => h) (g0 rfl) rfl rfl ?_
        refine a_pu 1 rfl (ev_move rfl rfl) (by rfl) (by kernel_rfl) (by kernel_rfl) (by kernel_rfl) (fun _ _ _ h => h) (g0 rfl) rfl rfl ?_
        refine a_pu 2 rfl (ev_slice_sl (ka := .i64) (a := (0 : Int)) (b := (64 : Int)) rfl rfl Tryd.runUnderlying32 Tryd.sizeOf5 (.inl ⟨rfl, rfl⟩) (.inr rfl) hk39 hA38) (by rfl) (by kernel_rfl) (by kernel_rfl) (by kernel_rfl) (fun _ _ _ h => h) (g0 rfl) rfl rfl ?_
        refine ac 3 (by kernel_rfl) (sl_cons (hG 0 rfl) sl_nil) ?_
        obtain ⟨r40, Hc41, H⟩ := bind_some' H
        refine k_call (c_sha_mix s34.2 (slc s34.1 (0 : Int) (64 : Int)) A36 c37 r40 Hc41) Tryd.call70 rfl rfl rfl [0] [] rfl rfl (g0 rfl) rfl rfl ?_
        rintro _ _ _ ⟨rfl, rfl, rfl⟩
        dsimp only [app]
        refine ac 4 (by kernel_rfl) (sl_end (by kernel_rfl) sl_nil) ?_
        refine k_st (j := 0) rfl rfl rfl rfl (vs := r40.l.flatMap E32) rfl (sz (arr_len E32_len _ rfl) Tryd.sizeOf130) (arr_sc E32_one _) 0 rfl (spl_all ((arr_len E32_len _ rfl).trans (arr_len E32_len _ rfl).symm)) rfl (g0 rfl) rfl ?_
        refine a_done (by kernel_rfl) (sl_end (by kernel_rfl) sl_nil) ?_
        refine q_block ?_
        refine q_then ?_
        refine s_reg [0, 1, 2] rfl ?_
        refine o_pu rfl (ev_move rfl rfl) (g0 rfl) rfl rfl ?_
        obtain ⟨hk44, H⟩ := chk_some H
        refine oc (k_slice (kb := .i64) (a := (64 : Int)) (b := (s34.1.length : Int)) 1 rfl rfl rfl rfl E8_len Tryd.runUnderlying32 Tryd.sizeOf5 (.inr rfl) (.inl ⟨rfl, rfl⟩) hk44 (g0 rfl) rfl rfl ?_)
        intro A42 c43
        refine o_pu rfl (ev_assign rfl rfl) (g0 rfl) rfl rfl ?_
        refine o_nil ?_
        refine q_loop ?_
        exact k_wk (ih ((slc s34.1 (64 : Int) (s34.1.length : Int)), r40) (A42, c43) H) [2, 3, 4] [0, 3, 4, 5, 6, 7, 8, 9] 10 [0, 0, 0, 0, 0] 0 rfl rfl rfl
      · intro hb35
        have H := cnd_f H hb35
        refine s_exit ?_
        refine q_then_x ?_
        refine q_then_x ?_
        refine q_block_x ?_
        exact k_wk (J23 s34.2 () H) [2, 4] [1, 2, 3, 4, 5, 6, 7] 8 [0, 0, 0, 0, 0] 0 rfl rfl rfl
  · intro J12 H
    refine s_block ?_
    refine s_loop (k_wk (loop_ind (fun (s45 : List UInt8) (y45 : Option Addr × Nat) => ⟨Sl E8 y45.1 y45.2 s45 :: Sl E8 A9 c10 (r4 ++ ([128] : List UInt8)) :: Sl E8 (some ⟨b8, 0, none⟩) 1 ([128] : List UInt8) :: Sl E8 A6 c7 r4 :: Sl E8 A1 c2 a0_s.rest :: D0, At b3 0 ((Arr.zero 0 32 : Arr UInt8 32).l.flatMap E8) :: At a0_sp 0 (a0_s.h.l.flatMap E32 ++ ([v64 a0_s.count, .slice A1 a0_s.rest.length c2])) :: Spare y45.1 s45.length y45.2 1 :: G0, [(0, (.pointer (some ⟨a0_sp, 0, none⟩))), (2, (.pointer (some ⟨b3, 0, none⟩))), (3, (.slice y45.1 s45.length y45.2))]⟩) (sha_Stream_Sum_l1 _) _ (fun _ => rfl) ?_ Fuel (r4 ++ ([128] : List UInt8)) (A9, c10) H) [0, 2, 3] [0, 0, 1, 2, 3] 4 [1, 1, 0] 0 rfl rfl rfl)
    intro k45 s45 y45 ih H
    dsimp only
    rw [sha_Stream_Sum_l1] at H
    refine s_seq ?_
    refine s_seq ?_
    refine s_reg [0, 1, 2, 3] rfl ?_
    refine o_pu rfl (ev_move rfl rfl) (g0 rfl) rfl rfl ?_
    refine o_pu rfl (ev_len_slice rfl rfl Tryd.runUnderlying32) (g0 rfl) rfl rfl ?_
    refine o_pu rfl (ev_bin rfl rfl rfl rfl (rem_i _ 64 rfl)) (g0 rfl) rfl rfl ?_
    refine o_pu rfl (ev_bin rfl rfl rfl rfl (neq_i _ 56)) (g0 rfl) rfl rfl ?_
    refine o_nil ?_
    refine q_then ?_
    refine s_cond rfl ?_ ?_
    · intro hb46
      have H := cnd_t H hb46
      refine s_skip ?_
      refine q_then ?_
      refine s_block ?_
      refine s_reg [0, 1, 2, 3] rfl ?_
      refine o_pu rfl (ev_move rfl rfl) (g0 rfl) rfl rfl ?_
      refine oc (k_buildSlice (f := E8) ([0] : List UInt8) rfl rfl rfl rfl Tryd.runUnderlying32 Tryd.sizeOf5 Tryd.zeroValue5 rfl rfl (fill_all rfl rfl (by simp) rfl rfl) (g0 rfl) rfl rfl ?_)
      intro b47
      obtain ⟨hk50, H⟩ := chk_some H
      refine oc (k_append 1 0 2 rfl rfl rfl rfl rfl rfl rfl E8_len E8_one Tryd.underlying32 Tryd.underlying32 info5 rfl rfl rfl rfl hk50 (g0 rfl) rfl rfl ?_)
      intro A48 c49
      refine o_pu rfl (ev_assign rfl rfl) (g0 rfl) rfl rfl ?_
      refine o_nil ?_
      refine q_block ?_
      refine q_loop ?_
      exact k_wk (ih (s45 ++ ([0] : List UInt8)) (A48, c49) H) [0, 2, 3] [0, 3, 4, 5, 6] 7 [0, 0, 0] 0 rfl rfl rfl
    · intro hb46
      have H := cnd_f H hb46
      refine s_exit ?_
      refine q_then_x ?_
      refine q_then_x ?_
      refine q_block_x ?_
      exact k_wk (J12 s45 (y45.1, y45.2) H) [0, 2, 3] [0, 1, 2, 3, 4] 5 [0, 0, 0] 0 rfl rfl rfl

def sha_Sum (a0_b : List UInt8) : Option (Arr UInt8 32) :=
(sha_New ).bind fun r4 =>
(sha_Stream_Write (⟨r4.h, r4.count, r4.rest⟩ : StreamS) a0_b).bind fun r9 =>
(sha_Stream_Sum (⟨r9.h, r9.count, r9.rest⟩ : StreamS)).bind fun r13 =>
some r13

theorem c_sha_Sum (a0_b : List UInt8) (A1 : Option Addr) (c2 : Nat) (r : (Arr UInt8 32)) (H : sha_Sum a0_b = some r) : Fn Tryd.prog 32 [(.slice A1 a0_b.length c2)] [Sl E8 A1 c2 a0_b] [] (fun v D' G' => v = (.agg (r.l.flatMap E8).toArray) ∧ D' = [] ∧ G' = []) := by
  unfold sha_Sum at H
  refine fn_of Tryd.func32 rfl Tryd.ntmps32 rfl ?_
  intro w0 D0 G0
  dsimp only [app, initEnv, Nat.zero_add, Nat.reduceAdd]
  refine s_seq ?_
  refine s_reg [0] rfl ?_
  refine oc (k_alloc rfl rfl Tryd.zeroValue69 (cs := (Arr.zero 0 32 : Arr UInt8 32).l.flatMap E8) rfl (g0 rfl) rfl rfl ?_)
  intro b3
  refine o_nil ?_
  refine q_then ?_
  refine s_seq ?_
  refine s_reg [0, 1] rfl ?_
  obtain ⟨r4, Hc5, H⟩ := bind_some' H
  refine oc (k_call (c_sha_New  r4 Hc5) Tryd.call51 rfl rfl rfl [] [] rfl rfl (g0 rfl) rfl rfl ?_)
  rintro _ _ _ ⟨b6, A7, c8, rfl, rfl, rfl⟩
  dsimp only [app]
  refine o_pu rfl (ev_assign rfl rfl) (g0 rfl) rfl rfl ?_
  refine o_nil ?_
  refine q_then ?_
  refine s_seq ?_
  refine s_reg [0, 1, 2] rfl ?_
  refine o_pu rfl (ev_move rfl rfl) (g0 rfl) rfl rfl ?_
  refine o_pu rfl (ev_move rfl rfl) (g0 rfl) rfl rfl ?_
  obtain ⟨r9, Hc10, H⟩ := bind_some' H
  refine oc (k_call (c_sha_Stream_Write b6 (⟨r4.h, r4.count, r4.rest⟩ : StreamS) A7 c8 a0_b A1 c2 r9 Hc10) Tryd.call52 rfl rfl rfl [1, 0] [0] rfl rfl (g0 rfl) rfl rfl ?_)
  rintro _ _ _ ⟨A11, c12, rfl, rfl, rfl⟩
  dsimp only [app]
  refine o_nil ?_
  refine q_then ?_
  refine s_seq ?_
  refine s_reg [0, 1, 2] rfl ?_
  refine o_pu rfl (ev_move rfl rfl) (g0 rfl) rfl rfl ?_
  obtain ⟨r13, Hc14, H⟩ := bind_some' H
  refine oc (k_call (c_sha_Stream_Sum b6 (⟨r9.h, r9.count, r9.rest⟩ : StreamS) A11 c12 r13 Hc14) Tryd.call53 rfl rfl rfl [0] [0] rfl rfl (g0 rfl) rfl rfl ?_)
  rintro _ _ _ ⟨rfl, rfl, rfl⟩
  dsimp only [app]
  refine oc (k_st (j := 0) rfl rfl rfl rfl (vs := r13.l.flatMap E8) rfl (sz (arr_len E8_len _ rfl) Tryd.sizeOf69) (arr_sc E8_one _) 1 rfl (spl_all ((arr_len E8_len _ rfl).trans (arr_len E8_len _ rfl).symm)) rfl (g0 rfl) rfl ?_)
  refine o_nil ?_
  refine q_then ?_
  refine s_ret ?_
  cases H
  exact q_end (rs_1 Tryd.results32 (rv_cell (j := 0) rfl (hG 1 rfl) Tryd.isAgg69 (sz (arr_len E8_len _ rfl) Tryd.sizeOf69) (sub_all _) rfl)) ⟨rfl, rfl, rfl⟩ [] rfl 3 rfl [] rfl 2 rfl

def hmac_pad_l0 (a1_with : UInt8) (J10 : (List UInt8) → Option (List UInt8)) : Nat → (Int × List UInt8) → Option (List UInt8)
  | 0, _ => none
  | k14 + 1, s14 =>
    bif (decide (s14.1 < ((64 : Int).toNat : Int))) then (
    chk (0 ≤ s14.1 ∧ s14.1 < ((64 : Int).toNat : Int) ∧ s14.1 < (s14.2.length : Int)) <|
    chk (0 ≤ s14.1 ∧ s14.1 < ((64 : Int).toNat : Int) ∧ s14.1 < (s14.2.length : Int)) <|
    hmac_pad_l0 a1_with J10 k14 ((wrap64 (s14.1 + 1)), (s14.2.set s14.1.toNat ((at' 0 s14.2 s14.1) ^^^ a1_with)))) else (
    J10 s14.2)

def hmac_pad (a0_key : List UInt8) (a1_with : UInt8) : Option (List UInt8) :=
jn (fun (x5 : List UInt8) =>
chk (0 ≤ (64 : Int) ∧ (64 : Int) ≤ 68719476736) <|
chk ((List.replicate (64 : Int).toNat (0 : UInt8)).length = (64 : Int).toNat) <|
jn (fun (x11 : List UInt8) =>
chk (x11.length = (64 : Int).toNat) <|
some x11) fun J10 =>
hmac_pad_l0 a1_with J10 Fuel (0, (cpy (List.replicate (64 : Int).toNat (0 : UInt8)) x5))) fun J4 =>
bif (decide ((a0_key.length : Int) > 64)) then (
(sha_Sum a0_key).bind fun r19 =>
J4 r19.l) else (
J4 a0_key)

theorem c_hmac_pad (a0_key : List UInt8) (A1 : Option Addr) (c2 : Nat) (a1_with : UInt8) (r : (List UInt8)) (H : hmac_pad a0_key a1_with = some r) : Fn Tryd.prog 119 [(.slice A1 a0_key.length c2), (v8 a1_with)] [Sl E8 A1 c2 a0_key] [] (fun v D' G' => ∃ (A22 : Option Addr) (c23 : Nat), v = (.slice A22 r.length c23) ∧ D' = [Sl E8 A22 c23 r] ∧ G' = [Spare A22 r.length c23 1]) := by
  unfold hmac_pad at H
  refine fn_of Tryd.func119 rfl Tryd.ntmps119 rfl ?_
  intro w0 D0 G0
  dsimp only [app, initEnv, Nat.zero_add, Nat.reduceAdd]
  refine s_seq ?_
  refine s_reg [0] rfl ?_
  refine o_pu rfl (ev_assign rfl rfl) (g0 rfl) rfl rfl ?_
  refine o_nil ?_
  refine q_then ?_
  refine s_seq ?_
  refine s_seq ?_
  refine s_reg [0, 1, 2] rfl ?_
  refine o_pu rfl (ev_move rfl rfl) (g0 rfl) rfl rfl ?_
  refine o_pu rfl (ev_len_slice rfl rfl Tryd.runUnderlying32) (g0 rfl) rfl rfl ?_
  refine o_pu rfl (ev_bin rfl rfl rfl rfl (gtr_i _ 64)) (g0 rfl) rfl rfl ?_
  refine o_nil ?_
  refine q_then ?_
  refine q_join (fun (x5 : List UInt8) (y6 : Option Addr × Nat) => ⟨Sl E8 y6.1 y6.2 x5 :: Sl E8 A1 c2 a0_key :: D0, G0, [(0, (.slice y6.1 x5.length y6.2)), (1, (v8 a1_with))]⟩) H ?_ ?_
  · intro x5 y6 H
    dsimp only
    refine q_then ?_
    refine s_seq ?_
    refine s_reg [0, 1] rfl ?_
    obtain ⟨hk8, H⟩ := chk_some H
    refine oc (k_make (f := E8) (m := (64 : Int)) (0 : UInt8) rfl rfl rfl rfl Tryd.underlying32 info5 rfl rfl rfl rfl rfl hk8 (g0 rfl) rfl rfl ?_)
    intro b7
    refine o_pu rfl (ev_assign rfl rfl) (g0 rfl) rfl rfl ?_
    refine o_nil ?_
    refine q_then ?_
    refine s_seq ?_
    refine s_reg [0, 1, 2] rfl ?_
    refine o_pu rfl (ev_move rfl rfl) (g0 rfl) rfl rfl ?_
    refine o_pu rfl (ev_move rfl rfl) (g0 rfl) rfl rfl ?_
    obtain ⟨hk9, H⟩ := chk_some H
    refine oc (k_copy (xs := (List.replicate (64 : Int).toNat (0 : UInt8))) (j := 0) rfl rfl rfl rfl Tryd.underlying32 info5 rfl E8_len E8_one 0 rfl 0 rfl hk9 (sub_all _) (spl_all (by rw [flatMap_length E8_len, flatMap_length E8_len, cpy_len])) rfl (g0 rfl) rfl rfl ?_)
    refine o_nil ?_
    refine q_then ?_
    refine s_seq ?_
    refine s_seq ?_
    refine s_reg [0, 1, 2] rfl ?_
    refine o_pu rfl (ev_move rfl rfl) (g0 rfl) rfl rfl ?_
    refine o_pu rfl (ev_len_slice rfl rfl Tryd.runUnderlying32) (g0 rfl) rfl rfl ?_
    refine o_pu rfl (ev_move rfl rfl) (g0 rfl) rfl rfl ?_
    refine o_nil ?_
    refine q_then ?_
    refine q_join (fun (x11 : List UInt8) (y12 : Unit) => ⟨Sl E8 y6.1 y6.2 x5 :: Sl E8 A1 c2 a0_key :: D0, At b7 0 (x11.flatMap E8) :: G0, [(6, (.slice (some ⟨b7, 0, none⟩) ((64 : Int).toNat) ((64 : Int).toNat)))]⟩) H ?_ ?_
    · intro x11 y12 H
      dsimp only
      refine q_then ?_
      refine s_seq ?_
      refine s_reg [0, 1] rfl ?_
      refine o_pu rfl (ev_move rfl rfl) (g0 rfl) rfl rfl ?_
      refine o_pu rfl (ev_assign rfl rfl) (g0 rfl) rfl rfl ?_
      refine o_nil ?_
      refine q_then ?_
      refine s_ret ?_
      obtain ⟨hk13, H⟩ := chk_some H
      refine k_keep 0 rfl ?_
      refine k_ro_sl (f := E8) (cap := (64 : Int).toNat) x11 0 rfl (sub_all _) rfl (Nat.le_of_eq hk13) (by have := hk8; omega) ?_
      refine k_eq (v' := (.slice (some ⟨b7, 0, none⟩) x11.length ((64 : Int).toNat))) 4 rfl (congrArg (fun z => Value.slice (some ⟨b7, 0, none⟩) z ((64 : Int).toNat)) hk13.symm) ?_
      refine k_eq (v' := (.slice (some ⟨b7, 0, none⟩) x11.length ((64 : Int).toNat))) 6 rfl (congrArg (fun z => Value.slice (some ⟨b7, 0, none⟩) z ((64 : Int).toNat)) hk13.symm) ?_
      refine k_eq (v' := (.slice (some ⟨b7, 0, none⟩) x11.length ((64 : Int).toNat))) 31 rfl (congrArg (fun z => Value.slice (some ⟨b7, 0, none⟩) z ((64 : Int).toNat)) hk13.symm) ?_
      refine k_spare_full (some ⟨b7, 0, none⟩) x11.length ((64 : Int).toNat) 1 hk13 ?_
      cases H
      exact q_end (rs_1 Tryd.results119 (rv_tmp rfl)) ⟨(some ⟨b7, 0, none⟩), (64 : Int).toNat, rfl, rfl, rfl⟩ [0] rfl 4 rfl [0] rfl 0 rfl
    · intro J10 H
      refine s_block ?_
      refine s_loop (k_wk (loop_ind (fun (s14 : Int × List UInt8) (y14 : Unit) => ⟨Sl E8 y6.1 y6.2 x5 :: Sl E8 A1 c2 a0_key :: D0, At b7 0 (s14.2.flatMap E8) :: G0, [(1, (v8 a1_with)), (6, (.slice (some ⟨b7, 0, none⟩) ((64 : Int).toNat) ((64 : Int).toNat))), (19, (vi ((64 : Int).toNat : Int))), (20, (vi s14.1))]⟩) (hmac_pad_l0 a1_with _) _ (fun _ => rfl) ?_ Fuel (0, (cpy (List.replicate (64 : Int).toNat (0 : UInt8)) x5)) () H) [1, 6, 19, 20] [0, 1] 2 [0] 0 rfl rfl rfl)
      intro k14 s14 y14 ih H
      dsimp only
      rw [hmac_pad_l0] at H
      refine s_seq ?_
      refine s_reg [0] rfl ?_
      refine o_pu rfl (ev_bin rfl rfl rfl rfl (lss_i _ _)) (g0 rfl) rfl rfl ?_
      refine o_nil ?_
      refine q_then ?_
      refine s_seq ?_
      refine s_cond rfl ?_ ?_
      · intro hb15
        have H := cnd_t H hb15
        refine s_skip ?_
        refine q_then ?_
        refine s_seq ?_
        refine s_block ?_
        refine s_seq ?_
        refine s_reg [0, 1] rfl ?_
        refine o_pu rfl (ev_move rfl rfl) (g0 rfl) rfl rfl ?_
        refine o_pu rfl (ev_assign rfl rfl) (g0 rfl) rfl rfl ?_
        refine o_nil ?_
        refine q_then ?_
        refine s_reg [0, 1, 2, 3, 4, 5, 6, 7] rfl ?_
        refine o_pu rfl (ev_move rfl rfl) (g0 rfl) rfl rfl ?_
        refine o_pu rfl (ev_move rfl rfl) (g0 rfl) rfl rfl ?_
        obtain ⟨hk16, H⟩ := chk_some H
        refine o_pu rfl (ev_idx_slice rfl rfl rfl Tryd.runUnderlying32 Tryd.sizeOf5 ⟨hk16.1, hk16.2.1⟩ rfl) (g0 rfl) rfl rfl ?_
        refine o_ld (hG 0 rfl) rfl (ev_ld1 rfl rfl Tryd.isAgg5 (sub_map E8_len 0 (k := s14.1) ⟨hk16.1, hk16.2.2⟩ rfl) (by omega)) (g0 rfl) rfl rfl ?_
        refine o_pu rfl (ev_move rfl rfl) (g0 rfl) rfl rfl ?_
        refine o_pu rfl (ev_bin rfl rfl rfl rfl (xor_8 _ _)) (g0 rfl) rfl rfl ?_
        obtain ⟨hk17, H⟩ := chk_some H
        refine o_pu rfl (ev_idx_slice rfl rfl rfl Tryd.runUnderlying32 Tryd.sizeOf5 ⟨hk17.1, hk17.2.1⟩ rfl) (g0 rfl) rfl rfl ?_
        refine oc (k_st rfl rfl rfl rfl (vs := [v8 ((at' 0 s14.2 s14.1) ^^^ a1_with)]) rfl (sz rfl Tryd.sizeOf5) rfl 0 rfl (spl_map E8_len _ (k := s14.1) _ ⟨hk17.1, hk17.2.2⟩ rfl) (by omega) (g0 rfl) rfl ?_)
        refine o_nil ?_
        refine q_block ?_
        refine q_then ?_
        refine s_reg [0, 1] rfl ?_
        refine o_pu rfl (ev_bin rfl rfl rfl rfl (add_i _ 1)) (g0 rfl) rfl rfl ?_
        refine o_pu rfl (ev_move rfl rfl) (g0 rfl) rfl rfl ?_
        refine o_nil ?_
        refine q_loop ?_
        exact k_wk (ih ((wrap64 (s14.1 + 1)), (s14.2.set s14.1.toNat ((at' 0 s14.2 s14.1) ^^^ a1_with))) () H) [1, 6, 19, 20] [0, 1] 2 [0] 0 rfl rfl rfl
      · intro hb15
        have H := cnd_f H hb15
        refine s_exit ?_
        refine q_then_x ?_
        refine q_then_x ?_
        refine q_block_x ?_
        exact k_wk (J10 s14.2 () H) [6] [0, 1] 2 [0] 0 rfl rfl rfl
  · intro J4 H
    refine s_cond rfl ?_ ?_
    · intro hb18
      have H := cnd_t H hb18
      refine s_seq ?_
      refine s_reg [0, 1, 2, 3] rfl ?_
      refine o_pu rfl (ev_move rfl rfl) (g0 rfl) rfl rfl ?_
      obtain ⟨r19, Hc20, H⟩ := bind_some' H
      refine oc (k_call (c_sha_Sum a0_key A1 c2 r19 Hc20) Tryd.call32 rfl rfl rfl [0] [] rfl rfl (g0 rfl) rfl rfl ?_)
      rintro _ _ _ ⟨rfl, rfl, rfl⟩
      dsimp only [app]
      refine oc (k_alloc rfl rfl Tryd.zeroValue69 (cs := (Arr.zero 0 32 : Arr UInt8 32).l.flatMap E8) rfl (g0 rfl) rfl rfl ?_)
      intro b21
      refine oc (k_st (j := 0) rfl rfl rfl rfl (vs := r19.l.flatMap E8) rfl (sz (arr_len E8_len _ rfl) Tryd.sizeOf69) (arr_sc E8_one _) 0 rfl (spl_all ((arr_len E8_len _ rfl).trans (arr_len E8_len _ rfl).symm)) rfl (g0 rfl) rfl ?_)
      refine o_nil ?_
      refine q_then ?_
      refine s_reg [0, 1] rfl ?_
      refine o_pu rfl (ev_slice_arr rfl rfl Tryd.runUnderlying69 Tryd.sizeOf5) (g0 rfl) rfl rfl ?_
      refine k_keep 0 rfl ?_
      refine k_ro_sl (f := E8) (cap := 32) r19.l 0 rfl (sub_all _) rfl (Nat.le_of_eq (r19).len) (by decide) ?_
      refine k_eq (v' := (.slice (some ⟨b21, 0, none⟩) r19.l.length 32)) 13 rfl (congrArg (fun z => Value.slice (some ⟨b21, 0, none⟩) z 32) (r19).len.symm) ?_
      refine k_spare_full (some ⟨b21, 0, none⟩) r19.l.length 32 1 (r19).len ?_
      refine o_pu rfl (ev_assign rfl rfl) (g0 rfl) rfl rfl ?_
      refine o_nil ?_
      exact k_wk (J4 r19.l ((some ⟨b21, 0, none⟩), 32) H) [0, 1] [0, 2] 3 [] 1 rfl rfl rfl
    · intro hb18
      have H := cnd_f H hb18
      refine s_skip ?_
      exact k_wk (J4 a0_key (A1, c2) H) [0, 1] [0, 0] 1 [] 0 rfl rfl rfl

def model_New (a0_c : Config) : Option (Option ModelS) :=
(caps_Right (⟨a0_c.Name, a0_c.Key, a0_c.Slot, a0_c.Budget, a0_c.Quota, a0_c.Rights, a0_c.First⟩ : Config)).bind fun r6 =>
bif (!r6) then (
some (none : Option ModelS)) else (
(slices_Clone a0_c.Key).bind fun r9 =>
(slices_Repeat ([255] : List UInt8) (wrap64 (a0_c.Slot * 320))).bind fun r15 =>
(slices_Repeat ([255] : List UInt8) (wrap64 (a0_c.Slot * 320))).bind fun r19 =>
chk (r15.length = r15.length) <|
(sha_Sum a0_c.First).bind fun r23 =>
bnd ({ (MetaS.zero : MetaS) with Have := (Arr.set MetaS.zero.Have 0 (⟨1, (a0_c.First.length : Int), r23⟩ : Img)) }) fun x25 =>
chk ((cpy r15 a0_c.First).length = r15.length) <|
some (some (⟨(⟨a0_c.Name, r9, a0_c.Slot, a0_c.Budget, a0_c.Quota, a0_c.Rights, a0_c.First⟩ : Config), x25, (cpy r15 a0_c.First), r19⟩ : ModelS)))

theorem c_model_New (a0_c : Config) (A1 : Option Addr) (c2 : Nat) (A3 : Option Addr) (c4 : Nat) (r : (Option ModelS)) (H : model_New a0_c = some r) : Fn Tryd.prog 16 [(.agg ([vs a0_c.Name, .slice A1 a0_c.Key.length c2, vi a0_c.Slot, vi a0_c.Budget, vi a0_c.Quota, vi a0_c.Rights, .slice A3 a0_c.First.length c4]).toArray)] [Sl E8 A3 c4 a0_c.First, Sl E8 A1 c2 a0_c.Key] [] (fun v D' G' => (r = none → v = (.pointer none) ∧ D' = [] ∧ G' = []) ∧ (∀ x : ModelS, r = some x → ∃ (b28 : Nat) (g29 : ModelG), v = (.pointer (some ⟨b28, 0, none⟩)) ∧ D' = [] ∧ G' = [ModelT g29 b28 x])) := by
  unfold model_New at H
  refine fn_of Tryd.func16 rfl Tryd.ntmps16 rfl ?_
  intro w0 D0 G0
  dsimp only [app, initEnv, Nat.zero_add, Nat.reduceAdd]
  refine s_seq ?_
  refine s_reg [0, 1] rfl ?_
  refine oc (k_box rfl rfl rfl (cs := [vs a0_c.Name, .slice A1 a0_c.Key.length c2, vi a0_c.Slot, vi a0_c.Budget, vi a0_c.Quota, vi a0_c.Rights, .slice A3 a0_c.First.length c4]) rfl (g0 rfl) rfl rfl ?_)
  intro b5
  refine o_pu rfl (ev_assign rfl rfl) (g0 rfl) rfl rfl ?_
  refine o_nil ?_
  refine q_then ?_
  refine s_seq ?_
  refine s_seq ?_
  refine s_reg [0, 1, 2] rfl ?_
  refine o_ld (hG 0 rfl) rfl (ev_ldN (j := 0) (s := [vs a0_c.Name, .slice A1 a0_c.Key.length c2, vi a0_c.Slot, vi a0_c.Budget, vi a0_c.Quota, vi a0_c.Rights, .slice A3 a0_c.First.length c4]) rfl rfl Tryd.isAgg46 (sz rfl Tryd.sizeOf46) (sub_all _) rfl) (g0 rfl) rfl rfl ?_
  obtain ⟨r6, Hc7, H⟩ := bind_some' H
  refine oc (k_call (c_caps_Right (⟨a0_c.Name, a0_c.Key, a0_c.Slot, a0_c.Budget, a0_c.Quota, a0_c.Rights, a0_c.First⟩ : Config) A1 c2 A3 c4 r6 Hc7) Tryd.call29 rfl rfl rfl [0, 1] [] rfl rfl (g0 rfl) rfl rfl ?_)
  rintro _ _ _ ⟨rfl, rfl, rfl⟩
  dsimp only [app]
  refine o_pu rfl (ev_not rfl rfl) (g0 rfl) rfl rfl ?_
  refine o_nil ?_
  refine q_then ?_
  refine s_cond rfl ?_ ?_
  · intro hb8
    have H := cnd_t H hb8
    refine s_seq ?_
    refine s_reg [0] rfl ?_
    refine o_pu rfl (ev_assign rfl rfl) (g0 rfl) rfl rfl ?_
    refine o_nil ?_
    refine q_then ?_
    refine s_ret ?_
    refine q_then_r ?_
    cases H
    exact q_end (rs_1 Tryd.results16 (rv_tmp rfl)) ⟨fun _ => ⟨rfl, rfl, rfl⟩, fun _ h => by cases h⟩ [] rfl 2 rfl [] rfl 1 rfl
  · intro hb8
    have H := cnd_f H hb8
    refine s_skip ?_
    refine q_then ?_
    refine s_seq ?_
    refine s_reg [0, 1, 2, 3, 4] rfl ?_
    refine o_pu rfl (ev_fieldAddr rfl rfl Tryd.runUnderlying46 rfl Tryd.sizeOf32 rfl rfl) (g0 rfl) rfl rfl ?_
    refine o_ld (hG 0 rfl) rfl (ev_ld1 (j := 1) rfl rfl Tryd.isAgg32 (sub_nth (j := 1) rfl) rfl) (g0 rfl) rfl rfl ?_
    obtain ⟨r9, Hc10, H⟩ := bind_some' H
    refine oc (k_call (c_slices_Clone a0_c.Key A1 c2 r9 Hc10) Tryd.call30 rfl rfl rfl [1] [] rfl rfl (g0 rfl) rfl rfl ?_)
    rintro _ _ _ ⟨A11, c12, rfl, rfl, rfl⟩
    dsimp only [app]
    refine o_pu rfl (ev_fieldAddr rfl rfl Tryd.runUnderlying46 rfl Tryd.sizeOf32 rfl rfl) (g0 rfl) rfl rfl ?_
    refine oc (k_st (j := 1) rfl rfl rfl rfl (vs := [.slice A11 r9.length c12]) rfl (sz rfl Tryd.sizeOf32) rfl 1 rfl (spl_lit (j := 1) (cs' := [vs a0_c.Name, .slice A11 r9.length c12, vi a0_c.Slot, vi a0_c.Budget, vi a0_c.Quota, vi a0_c.Rights, .slice A3 a0_c.First.length c4]) rfl rfl) rfl (g0 rfl) rfl ?_)
    refine o_nil ?_
    refine q_then ?_
    refine s_seq ?_
    refine s_reg [0, 1, 2, 3] rfl ?_
    refine o_ld (hG 1 rfl) rfl (ev_ldN (j := 0) (s := [vs a0_c.Name, .slice A11 r9.length c12, vi a0_c.Slot, vi a0_c.Budget, vi a0_c.Quota, vi a0_c.Rights, .slice A3 a0_c.First.length c4]) rfl rfl Tryd.isAgg46 (sz rfl Tryd.sizeOf46) (sub_all _) rfl) (g0 rfl) rfl rfl ?_
    refine o_pu rfl (ev_build2 (zcs := [vs [], .slice none 0 0, vi 0, vi 0, vi 0, vi 0, .slice none 0 0] ++ (MetaS.cells MetaS.zero ++ ([.slice none 0 0, .slice none 0 0]))) (cs := [vs a0_c.Name, .slice A11 r9.length c12, vi a0_c.Slot, vi a0_c.Budget, vi a0_c.Quota, vi a0_c.Rights, .slice A3 a0_c.First.length c4] ++ (MetaS.cells MetaS.zero ++ ([.slice none 0 0, .slice none 0 0]))) rfl rfl Tryd.zeroValue77 Tryd.runUnderlying77 pl77 (by kernel_rfl) (show Instr.fill _ ([vs [], .slice none 0 0, vi 0, vi 0, vi 0, vi 0, .slice none 0 0] ++ (MetaS.cells MetaS.zero ++ ([.slice none 0 0, .slice none 0 0])) : List Value).toArray _ = some _ from (fill_cons rfl (s := [vs a0_c.Name, .slice A11 r9.length c12, vi a0_c.Slot, vi a0_c.Budget, vi a0_c.Quota, vi a0_c.Rights, .slice A3 a0_c.First.length c4]) rfl rfl (spl_head (spl_all rfl)) fill_nil))) (g0 rfl) rfl rfl ?_
    refine oc (k_box rfl rfl rfl (cs := [vs a0_c.Name, .slice A11 r9.length c12, vi a0_c.Slot, vi a0_c.Budget, vi a0_c.Quota, vi a0_c.Rights, .slice A3 a0_c.First.length c4] ++ (MetaS.cells MetaS.zero ++ ([.slice none 0 0, .slice none 0 0]))) rfl (g0 rfl) rfl rfl ?_)
    intro b13
    refine o_pu rfl (ev_assign rfl rfl) (g0 rfl) rfl rfl ?_
    refine o_nil ?_
    refine q_then ?_
    refine s_seq ?_
    refine s_seq ?_
    refine s_reg [0] rfl ?_
    refine o_pu rfl (ev_move rfl rfl) (g0 rfl) rfl rfl ?_
    refine o_nil ?_
    refine q_then ?_
    refine s_block ?_
    refine s_loop (l_round ?_)
    refine s_seq ?_
    refine s_reg [0] rfl ?_
    refine o_pu (v := (vb true)) rfl (ev_bin rfl rfl rfl rfl (lss_i 0 2)) (g0 rfl) rfl rfl ?_
    refine o_nil ?_
    refine q_then ?_
    refine s_seq ?_
    refine s_cond_t rfl ?_
    refine s_skip ?_
    refine q_then ?_
    refine s_seq ?_
    refine s_block ?_
    refine s_seq ?_
    refine s_reg [0, 1] rfl ?_
    refine o_pu rfl (ev_move rfl rfl) (g0 rfl) rfl rfl ?_
    refine o_pu rfl (ev_assign rfl rfl) (g0 rfl) rfl rfl ?_
    refine o_nil ?_
    refine q_then ?_
    refine s_draw mixed [(4, [10], Has b5 0 [vs a0_c.Name, .slice A11 r9.length c12, vi a0_c.Slot, vi a0_c.Budget, vi a0_c.Quota, vi a0_c.Rights, .slice A3 a0_c.First.length c4])] ?_
    refine a_pu 0 rfl (ev_move rfl rfl) (by rfl) (by kernel_rfl) (by kernel_rfl) (by kernel_rfl) (fun _ _ _ h => h) (g0 rfl) rfl rfl ?_
    refine a_pu 1 rfl (ev_move rfl rfl) (by rfl) (by kernel_rfl) (by kernel_rfl) (by kernel_rfl) (fun _ _ _ h => h) (g0 rfl) rfl rfl ?_
    refine a_pu 3 rfl (ev_fieldAddr rfl rfl Tryd.runUnderlying46 rfl Tryd.sizeOf3 rfl rfl) (by rfl) (by kernel_rfl) (by kernel_rfl) (by kernel_rfl) (fun _ _ _ h => h) (g0 rfl) rfl rfl ?_
    refine a_ld 4 0 rfl rfl (ev_ld1 (j := 2) rfl rfl Tryd.isAgg3 (sub_nth (j := 2) rfl) rfl) (by kernel_rfl) (by rfl) (by kernel_rfl) (by kernel_rfl) (by kernel_rfl) (by kernel_rfl) (fun _ _ _ h => h) (g0 rfl) rfl rfl ?_
    refine a_pu 5 rfl (ev_bin rfl rfl rfl rfl (mul_i _ 320)) (by rfl) (by kernel_rfl) (by kernel_rfl) (by kernel_rfl) (fun _ _ _ h => h) (g0 rfl) rfl rfl ?_
    refine a_pu 7 rfl (ev_nilCheck rfl rfl) (by rfl) (by kernel_rfl) (by kernel_rfl) (by kernel_rfl) (fun _ _ _ h => h) (g0 rfl) rfl rfl ?_
    refine a_pu 8 rfl (ev_fieldAddr rfl rfl Tryd.runUnderlying77 rfl Tryd.sizeOf75 rfl rfl) (by rfl) (by kernel_rfl) (by kernel_rfl) (by kernel_rfl) (fun _ _ _ h => h) (g0 rfl) rfl rfl ?_
    refine ac 2 (by kernel_rfl) (sl_cons (hG 2 rfl) sl_nil) ?_
    refine k_buildSlice (f := E8) ([255] : List UInt8) rfl rfl rfl rfl Tryd.runUnderlying32 Tryd.sizeOf5 Tryd.zeroValue5 rfl rfl (fill_all rfl rfl (by simp) rfl rfl) (g0 rfl) rfl rfl ?_
    intro b14
    refine ac 6 (by kernel_rfl) (sl_cons (hG 2 rfl) sl_nil) ?_
    obtain ⟨r15, Hc16, H⟩ := bind_some' H
    refine k_call (c_slices_Repeat ([255] : List UInt8) (some ⟨b14, 0, none⟩) 1 (wrap64 (a0_c.Slot * 320)) r15 Hc16) Tryd.call31 rfl rfl rfl [0] [] rfl rfl (g0 rfl) rfl rfl ?_
    rintro _ _ _ ⟨b17, rfl, rfl, rfl⟩
    dsimp only [app]
    refine a_pu 9 rfl (ev_idx_array (k := 0) rfl rfl rfl Tryd.runUnderlying75 Tryd.sizeOf32 ⟨by omega, by omega⟩ rfl) (by rfl) (by kernel_rfl) (by kernel_rfl) (by kernel_rfl) (fun _ _ _ h => h) (g0 rfl) rfl rfl ?_
    refine ac 10 (by kernel_rfl) (sl_cons (hG 3 rfl) sl_nil) ?_
    refine k_st (j := 114) rfl rfl rfl rfl (vs := [.slice (some ⟨b17, 0, none⟩) r15.length r15.length]) rfl (sz rfl Tryd.sizeOf32) rfl 1 rfl (spl_skip (n := 7) (spl_skip (n := 107) (spl_lit (j := 0) (cs' := [.slice (some ⟨b17, 0, none⟩) r15.length r15.length, .slice none 0 0]) rfl rfl) (MetaS.len _) rfl) rfl rfl) rfl (g0 rfl) rfl ?_
    refine a_done (by kernel_rfl) (sl_end (by kernel_rfl) sl_nil) ?_
    refine q_block ?_
    refine q_then ?_
    refine s_reg [0, 1] rfl ?_
    refine o_pu (v := (vi 1)) rfl (ev_bin rfl rfl rfl rfl (add_c 0 1 1 (by kernel_rfl))) (g0 rfl) rfl rfl ?_
    refine o_pu rfl (ev_move rfl rfl) (g0 rfl) rfl rfl ?_
    refine o_nil ?_
    refine q_loop ?_
    refine l_round ?_
    refine s_seq ?_
    refine s_reg [0] rfl ?_
    refine o_pu (v := (vb true)) rfl (ev_bin rfl rfl rfl rfl (lss_i 1 2)) (g0 rfl) rfl rfl ?_
    refine o_nil ?_
    refine q_then ?_
    refine s_seq ?_
    refine s_cond_t rfl ?_
    refine s_skip ?_
    refine q_then ?_
    refine s_seq ?_
    refine s_block ?_
    refine s_seq ?_
    refine s_reg [0, 1] rfl ?_
    refine o_pu rfl (ev_move rfl rfl) (g0 rfl) rfl rfl ?_
    refine o_pu rfl (ev_assign rfl rfl) (g0 rfl) rfl rfl ?_
    refine o_nil ?_
    refine q_then ?_
    refine s_draw mixed [(4, [10], Has b5 0 [vs a0_c.Name, .slice A11 r9.length c12, vi a0_c.Slot, vi a0_c.Budget, vi a0_c.Quota, vi a0_c.Rights, .slice A3 a0_c.First.length c4])] ?_
    refine a_pu 0 rfl (ev_move rfl rfl) (by rfl) (by kernel_rfl) (by kernel_rfl) (by kernel_rfl) (fun _ _ _ h => h) (g0 rfl) rfl rfl ?_
    refine a_pu 1 rfl (ev_move rfl rfl) (by rfl) (by kernel_rfl) (by kernel_rfl) (by kernel_rfl) (fun _ _ _ h => h) (g0 rfl) rfl rfl ?_
    refine a_pu 3 rfl (ev_fieldAddr rfl rfl Tryd.runUnderlying46 rfl Tryd.sizeOf3 rfl rfl) (by rfl) (by kernel_rfl) (by kernel_rfl) (by kernel_rfl) (fun _ _ _ h => h) (g0 rfl) rfl rfl ?_
    refine a_ld 4 0 rfl rfl (ev_ld1 (j := 2) rfl rfl Tryd.isAgg3 (sub_nth (j := 2) rfl) rfl) (by kernel_rfl) (by rfl) (by kernel_rfl) (by kernel_rfl) (by kernel_rfl) (by kernel_rfl) (fun _ _ _ h => h) (g0 rfl) rfl rfl ?_
    refine a_pu 5 rfl (ev_bin rfl rfl rfl rfl (mul_i _ 320)) (by rfl) (by kernel_rfl) (by kernel_rfl) (by kernel_rfl) (fun _ _ _ h => h) (g0 rfl) rfl rfl ?_
    refine a_pu 7 rfl (ev_nilCheck rfl rfl) (by rfl) (by kernel_rfl) (by kernel_rfl) (by kernel_rfl) (fun _ _ _ h => h) (g0 rfl) rfl rfl ?_
    refine a_pu 8 rfl (ev_fieldAddr rfl rfl Tryd.runUnderlying77 rfl Tryd.sizeOf75 rfl rfl) (by rfl) (by kernel_rfl) (by kernel_rfl) (by kernel_rfl) (fun _ _ _ h => h) (g0 rfl) rfl rfl ?_
    refine ac 2 (by kernel_rfl) (sl_cons (hG 3 rfl) sl_nil) ?_
    refine k_buildSlice (f := E8) ([255] : List UInt8) rfl rfl rfl rfl Tryd.runUnderlying32 Tryd.sizeOf5 Tryd.zeroValue5 rfl rfl (fill_all rfl rfl (by simp) rfl rfl) (g0 rfl) rfl rfl ?_
    intro b18
    refine ac 6 (by kernel_rfl) (sl_cons (hG 3 rfl) sl_nil) ?_
    obtain ⟨r19, Hc20, H⟩ := bind_some' H
    refine k_call (c_slices_Repeat ([255] : List UInt8) (some ⟨b18, 0, none⟩) 1 (wrap64 (a0_c.Slot * 320)) r19 Hc20) Tryd.call31 rfl rfl rfl [0] [] rfl rfl (g0 rfl) rfl rfl ?_
    rintro _ _ _ ⟨b21, rfl, rfl, rfl⟩
    dsimp only [app]
    refine a_pu 9 rfl (ev_idx_array (k := 1) rfl rfl rfl Tryd.runUnderlying75 Tryd.sizeOf32 ⟨by omega, by omega⟩ rfl) (by rfl) (by kernel_rfl) (by kernel_rfl) (by kernel_rfl) (fun _ _ _ h => h) (g0 rfl) rfl rfl ?_
    refine ac 10 (by kernel_rfl) (sl_cons (hG 4 rfl) sl_nil) ?_
    refine k_st (j := 115) rfl rfl rfl rfl (vs := [.slice (some ⟨b21, 0, none⟩) r19.length r19.length]) rfl (sz rfl Tryd.sizeOf32) rfl 2 rfl (spl_skip (n := 7) (spl_skip (n := 107) (spl_lit (j := 1) (cs' := [.slice (some ⟨b17, 0, none⟩) r15.length r15.length, .slice (some ⟨b21, 0, none⟩) r19.length r19.length]) rfl rfl) (MetaS.len _) rfl) rfl rfl) rfl (g0 rfl) rfl ?_
    refine a_done (by kernel_rfl) (sl_end (by kernel_rfl) sl_nil) ?_
    refine q_block ?_
    refine q_then ?_
    refine s_reg [0, 1] rfl ?_
    refine o_pu (v := (vi 2)) rfl (ev_bin rfl rfl rfl rfl (add_c 1 1 2 (by kernel_rfl))) (g0 rfl) rfl rfl ?_
    refine o_pu rfl (ev_move rfl rfl) (g0 rfl) rfl rfl ?_
    refine o_nil ?_
    refine q_loop ?_
    refine l_round ?_
    refine s_seq ?_
    refine s_reg [0] rfl ?_
    refine o_pu (v := (vb false)) rfl (ev_bin rfl rfl rfl rfl (lss_i 2 2)) (g0 rfl) rfl rfl ?_
    refine o_nil ?_
    refine q_then ?_
    refine s_seq ?_
    refine s_cond_f rfl ?_
    refine s_exit ?_
    refine q_then_x ?_
    refine q_then_x ?_
    refine q_block_x ?_
    refine q_then ?_
    refine s_seq ?_
    refine s_draw mixed [(4, [7], Has b13 0 ([vs a0_c.Name, .slice A11 r9.length c12, vi a0_c.Slot, vi a0_c.Budget, vi a0_c.Quota, vi a0_c.Rights, .slice A3 a0_c.First.length c4] ++ (MetaS.cells MetaS.zero ++ ([.slice (some ⟨b17, 0, none⟩) r15.length r15.length, .slice (some ⟨b21, 0, none⟩) r19.length r19.length])))), (6, [7], Has b5 0 [vs a0_c.Name, .slice A11 r9.length c12, vi a0_c.Slot, vi a0_c.Budget, vi a0_c.Quota, vi a0_c.Rights, .slice A3 a0_c.First.length c4])] ?_
    refine a_pu 0 rfl (ev_move rfl rfl) (by rfl) (by kernel_rfl) (by kernel_rfl) (by kernel_rfl) (fun _ _ _ h => h) (g0 rfl) rfl rfl ?_
    refine a_pu 1 rfl (ev_nilCheck rfl rfl) (by rfl) (by kernel_rfl) (by kernel_rfl) (by kernel_rfl) (fun _ _ _ h => h) (g0 rfl) rfl rfl ?_
    refine a_pu 2 rfl (ev_fieldAddr rfl rfl Tryd.runUnderlying77 rfl Tryd.sizeOf75 rfl rfl) (by rfl) (by kernel_rfl) (by kernel_rfl) (by kernel_rfl) (fun _ _ _ h => h) (g0 rfl) rfl rfl ?_
    refine a_pu 3 rfl (ev_idx_array (k := 0) rfl rfl rfl Tryd.runUnderlying75 Tryd.sizeOf32 ⟨by omega, by omega⟩ rfl) (by rfl) (by kernel_rfl) (by kernel_rfl) (by kernel_rfl) (fun _ _ _ h => h) (g0 rfl) rfl rfl ?_
    refine a_ld 4 0 rfl rfl (ev_ld1 (j := 114) rfl rfl Tryd.isAgg32 (sub_skip (n := 7) (sub_skip (n := 107) (sub_nth (j := 0) rfl) (MetaS.len _) rfl) rfl rfl) rfl) (by kernel_rfl) (by rfl) (by kernel_rfl) (by kernel_rfl) (by kernel_rfl) (by kernel_rfl) (fun _ _ _ h => h) (g0 rfl) rfl rfl ?_
    refine a_pu 5 rfl (ev_fieldAddr rfl rfl Tryd.runUnderlying46 rfl Tryd.sizeOf32 rfl rfl) (by rfl) (by kernel_rfl) (by kernel_rfl) (by kernel_rfl) (fun _ _ _ h => h) (g0 rfl) rfl rfl ?_
    refine a_ld 6 1 rfl rfl (ev_ld1 (j := 6) rfl rfl Tryd.isAgg32 (sub_nth (j := 6) rfl) rfl) (by kernel_rfl) (by rfl) (by kernel_rfl) (by kernel_rfl) (by kernel_rfl) (by kernel_rfl) (fun _ _ _ h => h) (g0 rfl) rfl rfl ?_
    refine ac 7 (by kernel_rfl) (sl_cons (hG 2 rfl) (sl_cons (hG 4 rfl) sl_nil)) ?_
    obtain ⟨hk22, H⟩ := chk_some H
    refine k_copy (xs := r15) (j := 0) rfl rfl rfl rfl Tryd.underlying32 info5 rfl E8_len E8_one 1 rfl 3 rfl hk22 (sub_all _) (spl_all (by rw [flatMap_length E8_len, flatMap_length E8_len, cpy_len])) rfl (g0 rfl) rfl rfl ?_
    refine a_done (by kernel_rfl) (sl_end (by kernel_rfl) (sl_end (by kernel_rfl) sl_nil)) ?_
    refine q_then ?_
    refine s_seq ?_
    refine s_draw mixed [(2, [12], Has b5 0 [vs a0_c.Name, .slice A11 r9.length c12, vi a0_c.Slot, vi a0_c.Budget, vi a0_c.Quota, vi a0_c.Rights, .slice A3 a0_c.First.length c4]), (5, [6, 12], Has b5 0 [vs a0_c.Name, .slice A11 r9.length c12, vi a0_c.Slot, vi a0_c.Budget, vi a0_c.Quota, vi a0_c.Rights, .slice A3 a0_c.First.length c4])] ?_
    refine a_pu 0 rfl (ev_move rfl rfl) (by rfl) (by kernel_rfl) (by kernel_rfl) (by kernel_rfl) (fun _ _ _ h => h) (g0 rfl) rfl rfl ?_
    refine a_pu 1 rfl (ev_fieldAddr rfl rfl Tryd.runUnderlying46 rfl Tryd.sizeOf32 rfl rfl) (by rfl) (by kernel_rfl) (by kernel_rfl) (by kernel_rfl) (fun _ _ _ h => h) (g0 rfl) rfl rfl ?_
    refine a_ld 2 0 rfl rfl (ev_ld1 (j := 6) rfl rfl Tryd.isAgg32 (sub_nth (j := 6) rfl) rfl) (by kernel_rfl) (by rfl) (by kernel_rfl) (by kernel_rfl) (by kernel_rfl) (by kernel_rfl) (fun _ _ _ h => h) (g0 rfl) rfl rfl ?_
    refine a_pu 3 rfl (ev_len_slice rfl rfl Tryd.runUnderlying32) (by rfl) (by kernel_rfl) (by kernel_rfl) (by kernel_rfl) (fun _ _ _ h => h) (g0 rfl) rfl rfl ?_
    refine a_pu 4 rfl (ev_fieldAddr rfl rfl Tryd.runUnderlying46 rfl Tryd.sizeOf32 rfl rfl) (by rfl) (by kernel_rfl) (by kernel_rfl) (by kernel_rfl) (fun _ _ _ h => h) (g0 rfl) rfl rfl ?_
    refine a_ld 5 1 rfl rfl (ev_ld1 (j := 6) rfl rfl Tryd.isAgg32 (sub_nth (j := 6) rfl) rfl) (by kernel_rfl) (by rfl) (by kernel_rfl) (by kernel_rfl) (by kernel_rfl) (by kernel_rfl) (fun _ _ _ h => h) (g0 rfl) rfl rfl ?_
    refine a_pu 8 rfl (ev_nilCheck rfl rfl) (by rfl) (by kernel_rfl) (by kernel_rfl) (by kernel_rfl) (fun _ _ _ h => h) (g0 rfl) rfl rfl ?_
    refine a_pu 9 rfl (ev_fieldAddr rfl rfl Tryd.runUnderlying77 rfl Tryd.sizeOf74 rfl rfl) (by rfl) (by kernel_rfl) (by kernel_rfl) (by kernel_rfl) (fun _ _ _ h => h) (g0 rfl) rfl rfl ?_
    refine a_pu 10 rfl (ev_fieldAddr rfl rfl Tryd.runUnderlying74 rfl Tryd.sizeOf72 rfl rfl) (by rfl) (by kernel_rfl) (by kernel_rfl) (by kernel_rfl) (fun _ _ _ h => h) (g0 rfl) rfl rfl ?_
    refine ac 6 (by kernel_rfl) (sl_cons (hG 4 rfl) (sl_cons (hG 4 rfl) sl_nil)) ?_
    obtain ⟨r23, Hc24, H⟩ := bind_some' H
    refine k_call (c_sha_Sum a0_c.First A3 c4 r23 Hc24) Tryd.call32 rfl rfl rfl [3] [] rfl rfl (g0 rfl) rfl rfl ?_
    rintro _ _ _ ⟨rfl, rfl, rfl⟩
    dsimp only [app]
    refine a_pu 7 rfl (ev_build (cs := Img.cells (⟨1, (a0_c.First.length : Int), r23⟩ : Img)) rfl rfl Tryd.zeroValue71 Tryd.runUnderlying71 pl71 (show Instr.fill _ (Img.cells Img.zero : List Value).toArray _ = some _ from (fill_cons rfl (s := [vi 1]) rfl rfl (Img.set_Version _ 1) (fill_cons rfl (s := [vi (a0_c.First.length : Int)]) rfl rfl (Img.set_Size _ (a0_c.First.length : Int)) (fill_cons rfl (s := r23.l.flatMap E8) rfl (arr_len E8_len _ rfl) (Img.set_Digest _ r23) fill_nil))))) (by rfl) (by kernel_rfl) (by kernel_rfl) (by kernel_rfl) (fun _ _ _ h => h) (g0 rfl) rfl rfl ?_
    refine a_pu 11 rfl (ev_idx_array (k := 0) rfl rfl rfl Tryd.runUnderlying72 Tryd.sizeOf71 ⟨by omega, by omega⟩ rfl) (by rfl) (by kernel_rfl) (by kernel_rfl) (by kernel_rfl) (fun _ _ _ h => h) (g0 rfl) rfl rfl ?_
    refine ac 12 (by kernel_rfl) (sl_cons (hG 4 rfl) (sl_end (by kernel_rfl) sl_nil)) ?_
    refine k_st (j := 8) rfl rfl rfl rfl (vs := Img.cells (⟨1, (a0_c.First.length : Int), r23⟩ : Img)) rfl (sz (Img.len _) Tryd.sizeOf71) (Img.sc _) 2 rfl (spl_skip (n := 7) (spl_head (spl_in (MetaS.sub_Have _) (spl_arr Img.len _ (k := 0) _ ⟨by omega, by omega⟩ rfl) (MetaS.set_Have _ _) rfl)) rfl rfl) rfl (g0 rfl) rfl ?_
    obtain ⟨x25, hx26⟩ : ∃ x, x = ({ (MetaS.zero : MetaS) with Have := (Arr.set MetaS.zero.Have 0 (⟨1, (a0_c.First.length : Int), r23⟩ : Img)) }) := ⟨_, rfl⟩
    have H := bnd_eq H hx26
    refine k_tok 2 (A' := At b13 0 ([vs a0_c.Name, .slice A11 r9.length c12, vi a0_c.Slot, vi a0_c.Budget, vi a0_c.Quota, vi a0_c.Rights, .slice A3 a0_c.First.length c4] ++ (MetaS.cells x25 ++ ([.slice (some ⟨b17, 0, none⟩) r15.length r15.length, .slice (some ⟨b21, 0, none⟩) r19.length r19.length])))) rfl (by rw [hx26]) ?_
    refine a_done (by kernel_rfl) (sl_end (by kernel_rfl) (sl_end (by kernel_rfl) sl_nil)) ?_
    refine q_then ?_
    refine s_seq ?_
    refine s_reg [0, 1] rfl ?_
    refine o_pu rfl (ev_move rfl rfl) (g0 rfl) rfl rfl ?_
    refine o_pu rfl (ev_assign rfl rfl) (g0 rfl) rfl rfl ?_
    refine o_nil ?_
    refine q_then ?_
    refine s_ret ?_
    obtain ⟨hk27, H⟩ := chk_some H
    refine k_tok 2 (A' := At b13 0 ([vs a0_c.Name, .slice A11 r9.length c12, vi a0_c.Slot, vi a0_c.Budget, vi a0_c.Quota, vi a0_c.Rights, .slice A3 a0_c.First.length c4] ++ (MetaS.cells x25 ++ ([.slice (some ⟨b17, 0, none⟩) ((cpy r15 a0_c.First).length) ((cpy r15 a0_c.First).length), .slice (some ⟨b21, 0, none⟩) r19.length r19.length])))) rfl (by rw [hk27]) ?_
    refine k_pk (ModelT ⟨A11, c12, A3, c4, b17, b21⟩ b13 (⟨(⟨a0_c.Name, r9, a0_c.Slot, a0_c.Budget, a0_c.Quota, a0_c.Rights, a0_c.First⟩ : Config), x25, (cpy r15 a0_c.First), r19⟩ : ModelS)) rfl [2, 3] [2, 1, 0] rfl rfl ?_
    cases H
    exact q_end (rs_1 Tryd.results16 (rv_tmp rfl)) ⟨fun h => (by cases h), fun _ h => by cases h; exact ⟨b13, ⟨A11, c12, A3, c4, b17, b21⟩, rfl, rfl, rfl⟩⟩ [] rfl 5 rfl [0] rfl 2 rfl

end Go.Proofs.YtphbbnlbfbhcaaaDoor.Wl
