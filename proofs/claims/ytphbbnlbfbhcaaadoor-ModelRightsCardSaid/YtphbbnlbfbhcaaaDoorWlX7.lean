import Derived.Test.YtphbbnlbfbhcaaaDoorWlW
import Derived.Test.YtphbbnlbfbhcaaaDoorWlX0
import Derived.Test.YtphbbnlbfbhcaaaDoorWlX2
import Derived.Test.YtphbbnlbfbhcaaaDoorWlX3
import Derived.Test.YtphbbnlbfbhcaaaDoorWlX4
import Derived.Test.YtphbbnlbfbhcaaaDoorWlX5
import Derived.Test.YtphbbnlbfbhcaaaDoorWlX6
set_option linter.unusedSimpArgs false
set_option linter.unusedVariables false
set_option maxRecDepth 10000
namespace Go.Proofs.YtphbbnlbfbhcaaaDoor.Wl
open Go.RowKit Go.Proofs
def sha_round (a0_v : Arr UInt32 8) (a1_more : UInt32) : Option (Arr UInt32 8) :=
(turn_Right (at' 0 a0_v.l 4) (6 : Int)).bind fun r3 =>
(turn_Right (at' 0 a0_v.l 4) (11 : Int)).bind fun r5 =>
(turn_Right (at' 0 a0_v.l 4) (25 : Int)).bind fun r7 =>
(turn_Right (at' 0 a0_v.l 0) (2 : Int)).bind fun r9 =>
(turn_Right (at' 0 a0_v.l 0) (13 : Int)).bind fun r11 =>
(turn_Right (at' 0 a0_v.l 0) (22 : Int)).bind fun r13 =>
some (⟨[((((((at' 0 a0_v.l 7) + ((r3 ^^^ r5) ^^^ r7)) + (((at' 0 a0_v.l 4) &&& (at' 0 a0_v.l 5)) ^^^ ((~~~(at' 0 a0_v.l 4)) &&& (at' 0 a0_v.l 6)))) + a1_more) + (((r9 ^^^ r11) ^^^ r13) + ((((at' 0 a0_v.l 0) &&& (at' 0 a0_v.l 1)) ^^^ ((at' 0 a0_v.l 0) &&& (at' 0 a0_v.l 2))) ^^^ ((at' 0 a0_v.l 1) &&& (at' 0 a0_v.l 2))))) : UInt32), ((at' 0 a0_v.l 0) : UInt32), ((at' 0 a0_v.l 1) : UInt32), ((at' 0 a0_v.l 2) : UInt32), (((at' 0 a0_v.l 3) + ((((at' 0 a0_v.l 7) + ((r3 ^^^ r5) ^^^ r7)) + (((at' 0 a0_v.l 4) &&& (at' 0 a0_v.l 5)) ^^^ ((~~~(at' 0 a0_v.l 4)) &&& (at' 0 a0_v.l 6)))) + a1_more)) : UInt32), ((at' 0 a0_v.l 4) : UInt32), ((at' 0 a0_v.l 5) : UInt32), ((at' 0 a0_v.l 6) : UInt32)], rfl⟩ : Arr UInt32 8)

theorem c_sha_round (a0_v : Arr UInt32 8) (a1_more : UInt32) (r : (Arr UInt32 8)) (H : sha_round a0_v a1_more = some r) : Fn Tryd.prog 103 [(.agg (a0_v.l.flatMap E32).toArray), (v32 a1_more)] [] [] (fun v D' G' => v = (.agg (r.l.flatMap E32).toArray) ∧ D' = [] ∧ G' = []) := by
  unfold sha_round at H
  refine fn_of Tryd.func103 rfl Tryd.ntmps103 rfl ?_
  intro w0 D0 G0
  dsimp only [app, initEnv, Nat.zero_add, Nat.reduceAdd]
  refine s_seq ?_
  refine s_reg [0, 1] rfl ?_
  refine oc (k_box rfl rfl rfl (cs := a0_v.l.flatMap E32) rfl (g0 rfl) rfl rfl ?_)
  intro b1
  refine oc (k_alloc rfl rfl Tryd.zeroValue130 (cs := (Arr.zero 0 8 : Arr UInt32 8).l.flatMap E32) rfl (g0 rfl) rfl rfl ?_)
  intro b2
  refine o_nil ?_
  refine q_then ?_
  refine s_seq ?_
  refine s_draw mixed [(1, [], Has b1 0 (a0_v.l.flatMap E32)), (3, [], Has b1 0 (a0_v.l.flatMap E32))] ?_
  refine a_pu 0 rfl (ev_idx_array (k := 0) rfl rfl rfl Tryd.runUnderlying130 Tryd.sizeOf124 ⟨by omega, by omega⟩ rfl) (by rfl) (by kernel_rfl) (by kernel_rfl) (by kernel_rfl) (fun _ _ _ h => h) (g0 rfl) rfl rfl ?_
  refine a_ld 1 0 rfl rfl (ev_ld1 (j := 0) rfl rfl Tryd.isAgg124 (sub_arr E32_len 0 _ (k := 0) ⟨by omega, by omega⟩ rfl) rfl) (by kernel_rfl) (by rfl) (by kernel_rfl) (by kernel_rfl) (by kernel_rfl) (by kernel_rfl) (fun _ _ _ h => h) (g0 rfl) rfl rfl ?_
  refine a_pu 2 rfl (ev_idx_array (k := 4) rfl rfl rfl Tryd.runUnderlying130 Tryd.sizeOf124 ⟨by omega, by omega⟩ rfl) (by rfl) (by kernel_rfl) (by kernel_rfl) (by kernel_rfl) (fun _ _ _ h => h) (g0 rfl) rfl rfl ?_
  refine a_ld 3 1 rfl rfl (ev_ld1 (j := 4) rfl rfl Tryd.isAgg124 (sub_arr E32_len 0 _ (k := 4) ⟨by omega, by omega⟩ rfl) rfl) (by kernel_rfl) (by rfl) (by kernel_rfl) (by kernel_rfl) (by kernel_rfl) (by kernel_rfl) (fun _ _ _ h => h) (g0 rfl) rfl rfl ?_
  refine a_pu 4 rfl (ev_assign rfl rfl) (by rfl) (by kernel_rfl) (by kernel_rfl) (by kernel_rfl) (fun _ _ _ h => h) (g0 rfl) rfl rfl ?_
  refine a_pu 5 rfl (ev_assign rfl rfl) (by rfl) (by kernel_rfl) (by kernel_rfl) (by kernel_rfl) (fun _ _ _ h => h) (g0 rfl) rfl rfl ?_
  refine a_done (by kernel_rfl) (sl_cons (hG 1 rfl) (sl_cons (hG 1 rfl) sl_nil)) ?_
  refine q_then ?_
  refine s_seq ?_
  refine s_draw mixed [(1, [], Has b1 0 (a0_v.l.flatMap E32)), (13, [], Has b1 0 (a0_v.l.flatMap E32)), (18, [], Has b1 0 (a0_v.l.flatMap E32))] ?_
  refine a_pu 0 rfl (ev_idx_array (k := 7) rfl rfl rfl Tryd.runUnderlying130 Tryd.sizeOf124 ⟨by omega, by omega⟩ rfl) (by rfl) (by kernel_rfl) (by kernel_rfl) (by kernel_rfl) (fun _ _ _ h => h) (g0 rfl) rfl rfl ?_
  refine a_ld 1 0 rfl rfl (ev_ld1 (j := 7) rfl rfl Tryd.isAgg124 (sub_arr E32_len 0 _ (k := 7) ⟨by omega, by omega⟩ rfl) rfl) (by kernel_rfl) (by rfl) (by kernel_rfl) (by kernel_rfl) (by kernel_rfl) (by kernel_rfl) (fun _ _ _ h => h) (g0 rfl) rfl rfl ?_
  refine a_pu 2 rfl (ev_move rfl rfl) (by rfl) (by kernel_rfl) (by kernel_rfl) (by kernel_rfl) (fun _ _ _ h => h) (g0 rfl) rfl rfl ?_
  refine a_pu 4 rfl (ev_move rfl rfl) (by rfl) (by kernel_rfl) (by kernel_rfl) (by kernel_rfl) (fun _ _ _ h => h) (g0 rfl) rfl rfl ?_
  refine a_pu 7 rfl (ev_move rfl rfl) (by rfl) (by kernel_rfl) (by kernel_rfl) (by kernel_rfl) (fun _ _ _ h => h) (g0 rfl) rfl rfl ?_
  refine a_pu 11 rfl (ev_move rfl rfl) (by rfl) (by kernel_rfl) (by kernel_rfl) (by kernel_rfl) (fun _ _ _ h => h) (g0 rfl) rfl rfl ?_
  refine a_pu 12 rfl (ev_idx_array (k := 5) rfl rfl rfl Tryd.runUnderlying130 Tryd.sizeOf124 ⟨by omega, by omega⟩ rfl) (by rfl) (by kernel_rfl) (by kernel_rfl) (by kernel_rfl) (fun _ _ _ h => h) (g0 rfl) rfl rfl ?_
  refine a_ld 13 1 rfl rfl (ev_ld1 (j := 5) rfl rfl Tryd.isAgg124 (sub_arr E32_len 0 _ (k := 5) ⟨by omega, by omega⟩ rfl) rfl) (by kernel_rfl) (by rfl) (by kernel_rfl) (by kernel_rfl) (by kernel_rfl) (by kernel_rfl) (fun _ _ _ h => h) (g0 rfl) rfl rfl ?_
  refine a_pu 14 rfl (ev_bin rfl rfl rfl rfl (and_32 _ _)) (by rfl) (by kernel_rfl) (by kernel_rfl) (by kernel_rfl) (fun _ _ _ h => h) (g0 rfl) rfl rfl ?_
  refine a_pu 15 rfl (ev_move rfl rfl) (by rfl) (by kernel_rfl) (by kernel_rfl) (by kernel_rfl) (fun _ _ _ h => h) (g0 rfl) rfl rfl ?_
  refine a_pu 16 rfl (ev_un rfl rfl (not_32 _)) (by rfl) (by kernel_rfl) (by kernel_rfl) (by kernel_rfl) (fun _ _ _ h => h) (g0 rfl) rfl rfl ?_
  refine a_pu 17 rfl (ev_idx_array (k := 6) rfl rfl rfl Tryd.runUnderlying130 Tryd.sizeOf124 ⟨by omega, by omega⟩ rfl) (by rfl) (by kernel_rfl) (by kernel_rfl) (by kernel_rfl) (fun _ _ _ h => h) (g0 rfl) rfl rfl ?_
  refine a_ld 18 2 rfl rfl (ev_ld1 (j := 6) rfl rfl Tryd.isAgg124 (sub_arr E32_len 0 _ (k := 6) ⟨by omega, by omega⟩ rfl) rfl) (by kernel_rfl) (by rfl) (by kernel_rfl) (by kernel_rfl) (by kernel_rfl) (by kernel_rfl) (fun _ _ _ h => h) (g0 rfl) rfl rfl ?_
  refine a_pu 19 rfl (ev_bin rfl rfl rfl rfl (and_32 _ _)) (by rfl) (by kernel_rfl) (by kernel_rfl) (by kernel_rfl) (fun _ _ _ h => h) (g0 rfl) rfl rfl ?_
  refine a_pu 20 rfl (ev_bin rfl rfl rfl rfl (xor_32 _ _)) (by rfl) (by kernel_rfl) (by kernel_rfl) (by kernel_rfl) (fun _ _ _ h => h) (g0 rfl) rfl rfl ?_
  refine a_pu 22 rfl (ev_move rfl rfl) (by rfl) (by kernel_rfl) (by kernel_rfl) (by kernel_rfl) (fun _ _ _ h => h) (g0 rfl) rfl rfl ?_
  refine ac 3 (by kernel_rfl) (sl_cons (hG 1 rfl) (sl_cons (hG 1 rfl) (sl_cons (hG 1 rfl) sl_nil))) ?_
  obtain ⟨r3, Hc4, H⟩ := bind_some' H
  refine k_call (c_turn_Right (at' 0 a0_v.l 4) 6 r3 Hc4) Tryd.call125 rfl rfl rfl [] [] rfl rfl (g0 rfl) rfl rfl ?_
  rintro _ _ _ ⟨rfl, rfl, rfl⟩
  dsimp only [app]
  refine ac 5 (by kernel_rfl) (sl_cons (hG 1 rfl) (sl_cons (hG 1 rfl) (sl_cons (hG 1 rfl) sl_nil))) ?_
  obtain ⟨r5, Hc6, H⟩ := bind_some' H
  refine k_call (c_turn_Right (at' 0 a0_v.l 4) 11 r5 Hc6) Tryd.call125 rfl rfl rfl [] [] rfl rfl (g0 rfl) rfl rfl ?_
  rintro _ _ _ ⟨rfl, rfl, rfl⟩
  dsimp only [app]
  refine a_pu 6 rfl (ev_bin rfl rfl rfl rfl (xor_32 _ _)) (by rfl) (by kernel_rfl) (by kernel_rfl) (by kernel_rfl) (fun _ _ _ h => h) (g0 rfl) rfl rfl ?_
  refine ac 8 (by kernel_rfl) (sl_cons (hG 1 rfl) (sl_cons (hG 1 rfl) (sl_cons (hG 1 rfl) sl_nil))) ?_
  obtain ⟨r7, Hc8, H⟩ := bind_some' H
  refine k_call (c_turn_Right (at' 0 a0_v.l 4) 25 r7 Hc8) Tryd.call125 rfl rfl rfl [] [] rfl rfl (g0 rfl) rfl rfl ?_
  rintro _ _ _ ⟨rfl, rfl, rfl⟩
  dsimp only [app]
  refine a_pu 9 rfl (ev_bin rfl rfl rfl rfl (xor_32 _ _)) (by rfl) (by kernel_rfl) (by kernel_rfl) (by kernel_rfl) (fun _ _ _ h => h) (g0 rfl) rfl rfl ?_
  refine a_pu 10 rfl (ev_bin rfl rfl rfl rfl (add_32 _ _)) (by rfl) (by kernel_rfl) (by kernel_rfl) (by kernel_rfl) (fun _ _ _ h => h) (g0 rfl) rfl rfl ?_
  refine a_pu 21 rfl (ev_bin rfl rfl rfl rfl (add_32 _ _)) (by rfl) (by kernel_rfl) (by kernel_rfl) (by kernel_rfl) (fun _ _ _ h => h) (g0 rfl) rfl rfl ?_
  refine a_pu 23 rfl (ev_bin rfl rfl rfl rfl (add_32 _ _)) (by rfl) (by kernel_rfl) (by kernel_rfl) (by kernel_rfl) (fun _ _ _ h => h) (g0 rfl) rfl rfl ?_
  refine a_pu 24 rfl (ev_assign rfl rfl) (by rfl) (by kernel_rfl) (by kernel_rfl) (by kernel_rfl) (fun _ _ _ h => h) (g0 rfl) rfl rfl ?_
  refine a_done (by kernel_rfl) (sl_cons (hG 1 rfl) (sl_cons (hG 1 rfl) (sl_cons (hG 1 rfl) sl_nil))) ?_
  refine q_then ?_
  refine s_seq ?_
  refine s_draw mixed [(10, [], Has b1 0 (a0_v.l.flatMap E32)), (14, [], Has b1 0 (a0_v.l.flatMap E32)), (18, [], Has b1 0 (a0_v.l.flatMap E32)), (20, [], Has b1 0 (a0_v.l.flatMap E32))] ?_
  refine a_pu 0 rfl (ev_move rfl rfl) (by rfl) (by kernel_rfl) (by kernel_rfl) (by kernel_rfl) (fun _ _ _ h => h) (g0 rfl) rfl rfl ?_
  refine a_pu 2 rfl (ev_move rfl rfl) (by rfl) (by kernel_rfl) (by kernel_rfl) (by kernel_rfl) (fun _ _ _ h => h) (g0 rfl) rfl rfl ?_
  refine a_pu 5 rfl (ev_move rfl rfl) (by rfl) (by kernel_rfl) (by kernel_rfl) (by kernel_rfl) (fun _ _ _ h => h) (g0 rfl) rfl rfl ?_
  refine a_pu 8 rfl (ev_move rfl rfl) (by rfl) (by kernel_rfl) (by kernel_rfl) (by kernel_rfl) (fun _ _ _ h => h) (g0 rfl) rfl rfl ?_
  refine a_pu 9 rfl (ev_idx_array (k := 1) rfl rfl rfl Tryd.runUnderlying130 Tryd.sizeOf124 ⟨by omega, by omega⟩ rfl) (by rfl) (by kernel_rfl) (by kernel_rfl) (by kernel_rfl) (fun _ _ _ h => h) (g0 rfl) rfl rfl ?_
  refine a_ld 10 0 rfl rfl (ev_ld1 (j := 1) rfl rfl Tryd.isAgg124 (sub_arr E32_len 0 _ (k := 1) ⟨by omega, by omega⟩ rfl) rfl) (by kernel_rfl) (by rfl) (by kernel_rfl) (by kernel_rfl) (by kernel_rfl) (by kernel_rfl) (fun _ _ _ h => h) (g0 rfl) rfl rfl ?_
  refine a_pu 11 rfl (ev_bin rfl rfl rfl rfl (and_32 _ _)) (by rfl) (by kernel_rfl) (by kernel_rfl) (by kernel_rfl) (fun _ _ _ h => h) (g0 rfl) rfl rfl ?_
  refine a_pu 12 rfl (ev_move rfl rfl) (by rfl) (by kernel_rfl) (by kernel_rfl) (by kernel_rfl) (fun _ _ _ h => h) (g0 rfl) rfl rfl ?_
  refine a_pu 13 rfl (ev_idx_array (k := 2) rfl rfl rfl Tryd.runUnderlying130 Tryd.sizeOf124 ⟨by omega, by omega⟩ rfl) (by rfl) (by kernel_rfl) (by kernel_rfl) (by kernel_rfl) (fun _ _ _ h => h) (g0 rfl) rfl rfl ?_
  refine a_ld 14 1 rfl rfl (ev_ld1 (j := 2) rfl rfl Tryd.isAgg124 (sub_arr E32_len 0 _ (k := 2) ⟨by omega, by omega⟩ rfl) rfl) (by kernel_rfl) (by rfl) (by kernel_rfl) (by kernel_rfl) (by kernel_rfl) (by kernel_rfl) (fun _ _ _ h => h) (g0 rfl) rfl rfl ?_
  refine a_pu 15 rfl (ev_bin rfl rfl rfl rfl (and_32 _ _)) (by rfl) (by kernel_rfl) (by kernel_rfl) (by kernel_rfl) (fun _ _ _ h => h) (g0 rfl) rfl rfl ?_
  refine a_pu 16 rfl (ev_bin rfl rfl rfl rfl (xor_32 _ _)) (by rfl) (by kernel_rfl) (by kernel_rfl) (by kernel_rfl) (fun _ _ _ h => h) (g0 rfl) rfl rfl ?_
  refine a_pu 17 rfl (ev_idx_array (k := 1) rfl rfl rfl Tryd.runUnderlying130 Tryd.sizeOf124 ⟨by omega, by omega⟩ rfl) (by rfl) (by kernel_rfl) (by kernel_rfl) (by kernel_rfl) (fun _ _ _ h => h) (g0 rfl) rfl rfl ?_
  refine a_ld 18 2 rfl rfl (ev_ld1 (j := 1) rfl rfl Tryd.isAgg124 (sub_arr E32_len 0 _ (k := 1) ⟨by omega, by omega⟩ rfl) rfl) (by kernel_rfl) (by rfl) (by kernel_rfl) (by kernel_rfl) (by kernel_rfl) (by kernel_rfl) (fun _ _ _ h => h) (g0 rfl) rfl rfl ?_
  refine a_pu 19 rfl (ev_idx_array (k := 2) rfl rfl rfl Tryd.runUnderlying130 Tryd.sizeOf124 ⟨by omega, by omega⟩ rfl) (by rfl) (by kernel_rfl) (by kernel_rfl) (by kernel_rfl) (fun _ _ _ h => h) (g0 rfl) rfl rfl ?_
  refine a_ld 20 3 rfl rfl (ev_ld1 (j := 2) rfl rfl Tryd.isAgg124 (sub_arr E32_len 0 _ (k := 2) ⟨by omega, by omega⟩ rfl) rfl) (by kernel_rfl) (by rfl) (by kernel_rfl) (by kernel_rfl) (by kernel_rfl) (by kernel_rfl) (fun _ _ _ h => h) (g0 rfl) rfl rfl ?_
  refine a_pu 21 rfl (ev_bin rfl rfl rfl rfl (and_32 _ _)) (by rfl) (by kernel_rfl) (by kernel_rfl) (by kernel_rfl) (fun _ _ _ h => h) (g0 rfl) rfl rfl ?_
  refine a_pu 22 rfl (ev_bin rfl rfl rfl rfl (xor_32 _ _)) (by rfl) (by kernel_rfl) (by kernel_rfl) (by kernel_rfl) (fun _ _ _ h => h) (g0 rfl) rfl rfl ?_
  refine ac 1 (by kernel_rfl) (sl_cons (hG 1 rfl) (sl_cons (hG 1 rfl) (sl_cons (hG 1 rfl) (sl_cons (hG 1 rfl) sl_nil)))) ?_
  obtain ⟨r9, Hc10, H⟩ := bind_some' H
  refine k_call (c_turn_Right (at' 0 a0_v.l 0) 2 r9 Hc10) Tryd.call125 rfl rfl rfl [] [] rfl rfl (g0 rfl) rfl rfl ?_
  rintro _ _ _ ⟨rfl, rfl, rfl⟩
  dsimp only [app]
  refine ac 3 (by kernel_rfl) (sl_cons (hG 1 rfl) (sl_cons (hG 1 rfl) (sl_cons (hG 1 rfl) (sl_cons (hG 1 rfl) sl_nil)))) ?_
  obtain ⟨r11, Hc12, H⟩ := bind_some' H
  refine k_call (c_turn_Right (at' 0 a0_v.l 0) 13 r11 Hc12) Tryd.call125 rfl rfl rfl [] [] rfl rfl (g0 rfl) rfl rfl ?_
  rintro _ _ _ ⟨rfl, rfl, rfl⟩
  dsimp only [app]
  refine a_pu 4 rfl (ev_bin rfl rfl rfl rfl (xor_32 _ _)) (by rfl) (by kernel_rfl) (by kernel_rfl) (by kernel_rfl) (fun _ _ _ h => h) (g0 rfl) rfl rfl ?_
  refine ac 6 (by kernel_rfl) (sl_cons (hG 1 rfl) (sl_cons (hG 1 rfl) (sl_cons (hG 1 rfl) (sl_cons (hG 1 rfl) sl_nil)))) ?_
  obtain ⟨r13, Hc14, H⟩ := bind_some' H
  refine k_call (c_turn_Right (at' 0 a0_v.l 0) 22 r13 Hc14) Tryd.call125 rfl rfl rfl [] [] rfl rfl (g0 rfl) rfl rfl ?_
  rintro _ _ _ ⟨rfl, rfl, rfl⟩
  dsimp only [app]
  refine a_pu 7 rfl (ev_bin rfl rfl rfl rfl (xor_32 _ _)) (by rfl) (by kernel_rfl) (by kernel_rfl) (by kernel_rfl) (fun _ _ _ h => h) (g0 rfl) rfl rfl ?_
  refine a_pu 23 rfl (ev_bin rfl rfl rfl rfl (add_32 _ _)) (by rfl) (by kernel_rfl) (by kernel_rfl) (by kernel_rfl) (fun _ _ _ h => h) (g0 rfl) rfl rfl ?_
  refine a_pu 24 rfl (ev_assign rfl rfl) (by rfl) (by kernel_rfl) (by kernel_rfl) (by kernel_rfl) (fun _ _ _ h => h) (g0 rfl) rfl rfl ?_
  refine a_done (by kernel_rfl) (sl_cons (hG 1 rfl) (sl_cons (hG 1 rfl) (sl_cons (hG 1 rfl) (sl_cons (hG 1 rfl) sl_nil)))) ?_
  refine q_then ?_
  refine s_seq ?_
  refine s_reg [0, 1, 2, 3, 4, 5, 6, 7, 8, 9, 10, 11, 12, 13, 14, 15, 16, 17, 18] rfl ?_
  refine o_pu rfl (ev_move rfl rfl) (g0 rfl) rfl rfl ?_
  refine o_pu rfl (ev_move rfl rfl) (g0 rfl) rfl rfl ?_
  refine o_pu rfl (ev_bin rfl rfl rfl rfl (add_32 _ _)) (g0 rfl) rfl rfl ?_
  refine o_pu rfl (ev_move rfl rfl) (g0 rfl) rfl rfl ?_
  refine o_pu rfl (ev_idx_array (k := 1) rfl rfl rfl Tryd.runUnderlying130 Tryd.sizeOf124 ⟨by omega, by omega⟩ rfl) (g0 rfl) rfl rfl ?_
  refine o_ld (hG 1 rfl) rfl (ev_ld1 (j := 1) rfl rfl Tryd.isAgg124 (sub_arr E32_len 0 _ (k := 1) ⟨by omega, by omega⟩ rfl) rfl) (g0 rfl) rfl rfl ?_
  refine o_pu rfl (ev_idx_array (k := 2) rfl rfl rfl Tryd.runUnderlying130 Tryd.sizeOf124 ⟨by omega, by omega⟩ rfl) (g0 rfl) rfl rfl ?_
  refine o_ld (hG 1 rfl) rfl (ev_ld1 (j := 2) rfl rfl Tryd.isAgg124 (sub_arr E32_len 0 _ (k := 2) ⟨by omega, by omega⟩ rfl) rfl) (g0 rfl) rfl rfl ?_
  refine o_pu rfl (ev_idx_array (k := 3) rfl rfl rfl Tryd.runUnderlying130 Tryd.sizeOf124 ⟨by omega, by omega⟩ rfl) (g0 rfl) rfl rfl ?_
  refine o_ld (hG 1 rfl) rfl (ev_ld1 (j := 3) rfl rfl Tryd.isAgg124 (sub_arr E32_len 0 _ (k := 3) ⟨by omega, by omega⟩ rfl) rfl) (g0 rfl) rfl rfl ?_
  refine o_pu rfl (ev_move rfl rfl) (g0 rfl) rfl rfl ?_
  refine o_pu rfl (ev_bin rfl rfl rfl rfl (add_32 _ _)) (g0 rfl) rfl rfl ?_
  refine o_pu rfl (ev_move rfl rfl) (g0 rfl) rfl rfl ?_
  refine o_pu rfl (ev_idx_array (k := 5) rfl rfl rfl Tryd.runUnderlying130 Tryd.sizeOf124 ⟨by omega, by omega⟩ rfl) (g0 rfl) rfl rfl ?_
  refine o_ld (hG 1 rfl) rfl (ev_ld1 (j := 5) rfl rfl Tryd.isAgg124 (sub_arr E32_len 0 _ (k := 5) ⟨by omega, by omega⟩ rfl) rfl) (g0 rfl) rfl rfl ?_
  refine o_pu rfl (ev_idx_array (k := 6) rfl rfl rfl Tryd.runUnderlying130 Tryd.sizeOf124 ⟨by omega, by omega⟩ rfl) (g0 rfl) rfl rfl ?_
  refine o_ld (hG 1 rfl) rfl (ev_ld1 (j := 6) rfl rfl Tryd.isAgg124 (sub_arr E32_len 0 _ (k := 6) ⟨by omega, by omega⟩ rfl) rfl) (g0 rfl) rfl rfl ?_
  refine o_pu rfl (ev_build_arr (f := E32) (a := (⟨[((((((at' 0 a0_v.l 7) + ((r3 ^^^ r5) ^^^ r7)) + (((at' 0 a0_v.l 4) &&& (at' 0 a0_v.l 5)) ^^^ ((~~~(at' 0 a0_v.l 4)) &&& (at' 0 a0_v.l 6)))) + a1_more) + (((r9 ^^^ r11) ^^^ r13) + ((((at' 0 a0_v.l 0) &&& (at' 0 a0_v.l 1)) ^^^ ((at' 0 a0_v.l 0) &&& (at' 0 a0_v.l 2))) ^^^ ((at' 0 a0_v.l 1) &&& (at' 0 a0_v.l 2))))) : UInt32), ((at' 0 a0_v.l 0) : UInt32), ((at' 0 a0_v.l 1) : UInt32), ((at' 0 a0_v.l 2) : UInt32), (((at' 0 a0_v.l 3) + ((((at' 0 a0_v.l 7) + ((r3 ^^^ r5) ^^^ r7)) + (((at' 0 a0_v.l 4) &&& (at' 0 a0_v.l 5)) ^^^ ((~~~(at' 0 a0_v.l 4)) &&& (at' 0 a0_v.l 6)))) + a1_more)) : UInt32), ((at' 0 a0_v.l 4) : UInt32), ((at' 0 a0_v.l 5) : UInt32), ((at' 0 a0_v.l 6) : UInt32)], rfl⟩ : Arr UInt32 8)) rfl rfl Tryd.zeroValue130 Tryd.runUnderlying130 Tryd.sizeOf124 (fill_all rfl rfl rfl rfl rfl)) (g0 rfl) rfl rfl ?_
  refine oc (k_st (j := 0) rfl rfl rfl rfl (vs := (⟨[((((((at' 0 a0_v.l 7) + ((r3 ^^^ r5) ^^^ r7)) + (((at' 0 a0_v.l 4) &&& (at' 0 a0_v.l 5)) ^^^ ((~~~(at' 0 a0_v.l 4)) &&& (at' 0 a0_v.l 6)))) + a1_more) + (((r9 ^^^ r11) ^^^ r13) + ((((at' 0 a0_v.l 0) &&& (at' 0 a0_v.l 1)) ^^^ ((at' 0 a0_v.l 0) &&& (at' 0 a0_v.l 2))) ^^^ ((at' 0 a0_v.l 1) &&& (at' 0 a0_v.l 2))))) : UInt32), ((at' 0 a0_v.l 0) : UInt32), ((at' 0 a0_v.l 1) : UInt32), ((at' 0 a0_v.l 2) : UInt32), (((at' 0 a0_v.l 3) + ((((at' 0 a0_v.l 7) + ((r3 ^^^ r5) ^^^ r7)) + (((at' 0 a0_v.l 4) &&& (at' 0 a0_v.l 5)) ^^^ ((~~~(at' 0 a0_v.l 4)) &&& (at' 0 a0_v.l 6)))) + a1_more)) : UInt32), ((at' 0 a0_v.l 4) : UInt32), ((at' 0 a0_v.l 5) : UInt32), ((at' 0 a0_v.l 6) : UInt32)], rfl⟩ : Arr UInt32 8).l.flatMap E32) rfl (sz (arr_len E32_len _ rfl) Tryd.sizeOf130) (arr_sc E32_one _) 0 rfl (spl_all ((arr_len E32_len _ rfl).trans (arr_len E32_len _ rfl).symm)) rfl (g0 rfl) rfl ?_)
  refine o_nil ?_
  refine q_then ?_
  refine s_ret ?_
  cases H
  exact q_end (rs_1 Tryd.results103 (rv_cell (j := 0) rfl (hG 0 rfl) Tryd.isAgg130 (sz (arr_len E32_len _ rfl) Tryd.sizeOf130) (sub_all _) rfl)) ⟨rfl, rfl, rfl⟩ [] rfl 0 rfl [] rfl 2 rfl

def update_does (a0_m : MetaS) (a1_q : Req) (a2_f : FactS) (a3_quota : Int) : Option ChangeS :=
bif (a1_q.Kind == 1) then (
(update_begin a0_m (⟨a1_q.Kind, a1_q.N, a1_q.Bytes⟩ : Req) a2_f a3_quota).bind fun r8 =>
some r8) else (
bif (a1_q.Kind == 2) then (
(update_write a0_m (⟨a1_q.Kind, a1_q.N, a1_q.Bytes⟩ : Req) a2_f).bind fun r11 =>
some r11) else (
bif (a1_q.Kind == 3) then (
(update_verify a0_m a2_f).bind fun r14 =>
some r14) else (
bif (a1_q.Kind == 4) then (
(update_commit a0_m a2_f).bind fun r17 =>
some r17) else (
bif (a1_q.Kind == 5) then (
(update_boot a0_m a2_f).bind fun r20 =>
some r20) else (
bif (a1_q.Kind == 6) then (
(update_confirm a0_m a2_f).bind fun r23 =>
some r23) else (
bif (a1_q.Kind == 7) then (
(update_rollback a0_m a2_f).bind fun r26 =>
some r26) else (
bif (a1_q.Kind == 8) then (
(update_abort a0_m a2_f).bind fun r29 =>
some r29) else (
bif (a1_q.Kind == 9) then (
some (⟨a0_m, (⟨0, a0_m.Phase, a0_m.Got⟩ : RespS)⟩ : ChangeS)) else (
(update_fails (1 : Int)).bind fun r32 =>
some r32)))))))))

theorem c_update_does (a0_m : MetaS) (a1_q : Req) (A1 : Option Addr) (c2 : Nat) (a2_f : FactS) (a3_quota : Int) (r : ChangeS) (H : update_does a0_m a1_q a2_f a3_quota = some r) : Fn Tryd.prog 55 [(.agg (MetaS.cells a0_m).toArray), (.agg ([vi a1_q.Kind, vi a1_q.N, .slice A1 a1_q.Bytes.length c2]).toArray), (.agg (FactS.cells a2_f).toArray), (vi a3_quota)] [Sl E8 A1 c2 a1_q.Bytes] [] (fun v D' G' => v = (.agg (ChangeS.cells r).toArray) ∧ D' = [] ∧ G' = []) := by
  unfold update_does at H
  refine fn_of Tryd.func55 rfl Tryd.ntmps55 rfl ?_
  intro w0 D0 G0
  dsimp only [app, initEnv, Nat.zero_add, Nat.reduceAdd]
  refine s_seq ?_
  refine s_reg [0, 1, 2, 3] rfl ?_
  refine oc (k_box rfl rfl rfl (cs := MetaS.cells a0_m) rfl (g0 rfl) rfl rfl ?_)
  intro b3
  refine oc (k_box rfl rfl rfl (cs := [vi a1_q.Kind, vi a1_q.N, .slice A1 a1_q.Bytes.length c2]) rfl (g0 rfl) rfl rfl ?_)
  intro b4
  refine oc (k_box rfl rfl rfl (cs := FactS.cells a2_f) rfl (g0 rfl) rfl rfl ?_)
  intro b5
  refine oc (k_alloc rfl rfl Tryd.zeroValue109 (cs := ChangeS.cells ChangeS.zero) rfl (g0 rfl) rfl rfl ?_)
  intro b6
  refine o_nil ?_
  refine q_then ?_
  refine s_seq ?_
  refine s_seq ?_
  refine s_reg [0, 1] rfl ?_
  refine o_pu rfl (ev_fieldAddr rfl rfl Tryd.runUnderlying34 rfl Tryd.sizeOf3 rfl rfl) (g0 rfl) rfl rfl ?_
  refine o_ld (hG 2 rfl) rfl (ev_ld1 (j := 0) rfl rfl Tryd.isAgg3 (sub_nth (j := 0) rfl) rfl) (g0 rfl) rfl rfl ?_
  refine o_nil ?_
  refine q_then ?_
  refine s_block ?_
  refine s_seq ?_
  refine s_reg [0, 1] rfl ?_
  refine o_pu rfl (ev_bin rfl rfl rfl rfl (eql_i _ 1)) (g0 rfl) rfl rfl ?_
  refine o_pu rfl (ev_assign rfl rfl) (g0 rfl) rfl rfl ?_
  refine o_nil ?_
  refine q_then ?_
  refine s_cond rfl ?_ ?_
  · intro hb7
    have H := cnd_t H hb7
    refine s_seq ?_
    refine s_reg [0, 1, 2, 3, 4, 5] rfl ?_
    refine o_ld (hG 3 rfl) rfl (ev_ldN (j := 0) rfl rfl Tryd.isAgg74 (sz (MetaS.len _) Tryd.sizeOf74) (sub_all _) rfl) (g0 rfl) rfl rfl ?_
    refine o_ld (hG 2 rfl) rfl (ev_ldN (j := 0) (s := [vi a1_q.Kind, vi a1_q.N, .slice A1 a1_q.Bytes.length c2]) rfl rfl Tryd.isAgg34 (sz rfl Tryd.sizeOf34) (sub_all _) rfl) (g0 rfl) rfl rfl ?_
    refine o_ld (hG 1 rfl) rfl (ev_ldN (j := 0) rfl rfl Tryd.isAgg86 (sz (FactS.len _) Tryd.sizeOf86) (sub_all _) rfl) (g0 rfl) rfl rfl ?_
    refine o_pu rfl (ev_move rfl rfl) (g0 rfl) rfl rfl ?_
    obtain ⟨r8, Hc9, H⟩ := bind_some' H
    refine oc (k_call (c_update_begin a0_m (⟨a1_q.Kind, a1_q.N, a1_q.Bytes⟩ : Req) A1 c2 a2_f a3_quota r8 Hc9) Tryd.call76 rfl rfl rfl [0] [] rfl rfl (g0 rfl) rfl rfl ?_)
    rintro _ _ _ ⟨rfl, rfl, rfl⟩
    dsimp only [app]
    refine oc (k_st (j := 0) rfl rfl rfl rfl (vs := ChangeS.cells r8) rfl (sz (ChangeS.len _) Tryd.sizeOf109) (ChangeS.sc _) 0 rfl (spl_all ((ChangeS.len _).trans (ChangeS.len _).symm)) rfl (g0 rfl) rfl ?_)
    refine o_nil ?_
    refine q_then ?_
    refine s_ret ?_
    refine q_block_r ?_
    refine q_then_r ?_
    cases H
    exact q_end (rs_1 Tryd.results55 (rv_cell (j := 0) rfl (hG 0 rfl) Tryd.isAgg109 (sz (ChangeS.len _) Tryd.sizeOf109) (sub_all _) rfl)) ⟨rfl, rfl, rfl⟩ [] rfl 1 rfl [] rfl 4 rfl
  · intro hb7
    have H := cnd_f H hb7
    refine s_seq ?_
    refine s_reg [0, 1] rfl ?_
    refine o_pu rfl (ev_bin rfl rfl rfl rfl (eql_i _ 2)) (g0 rfl) rfl rfl ?_
    refine o_pu rfl (ev_assign rfl rfl) (g0 rfl) rfl rfl ?_
    refine o_nil ?_
    refine q_then ?_
    refine s_cond rfl ?_ ?_
    · intro hb10
      have H := cnd_t H hb10
      refine s_seq ?_
      refine s_reg [0, 1, 2, 3, 4] rfl ?_
      refine o_ld (hG 3 rfl) rfl (ev_ldN (j := 0) rfl rfl Tryd.isAgg74 (sz (MetaS.len _) Tryd.sizeOf74) (sub_all _) rfl) (g0 rfl) rfl rfl ?_
      refine o_ld (hG 2 rfl) rfl (ev_ldN (j := 0) (s := [vi a1_q.Kind, vi a1_q.N, .slice A1 a1_q.Bytes.length c2]) rfl rfl Tryd.isAgg34 (sz rfl Tryd.sizeOf34) (sub_all _) rfl) (g0 rfl) rfl rfl ?_
      refine o_ld (hG 1 rfl) rfl (ev_ldN (j := 0) rfl rfl Tryd.isAgg86 (sz (FactS.len _) Tryd.sizeOf86) (sub_all _) rfl) (g0 rfl) rfl rfl ?_
      obtain ⟨r11, Hc12, H⟩ := bind_some' H
      refine oc (k_call (c_update_write a0_m (⟨a1_q.Kind, a1_q.N, a1_q.Bytes⟩ : Req) A1 c2 a2_f r11 Hc12) Tryd.call77 rfl rfl rfl [0] [] rfl rfl (g0 rfl) rfl rfl ?_)
      rintro _ _ _ ⟨rfl, rfl, rfl⟩
      dsimp only [app]
      refine oc (k_st (j := 0) rfl rfl rfl rfl (vs := ChangeS.cells r11) rfl (sz (ChangeS.len _) Tryd.sizeOf109) (ChangeS.sc _) 0 rfl (spl_all ((ChangeS.len _).trans (ChangeS.len _).symm)) rfl (g0 rfl) rfl ?_)
      refine o_nil ?_
      refine q_then ?_
      refine s_ret ?_
      refine q_block_r ?_
      refine q_then_r ?_
      cases H
      exact q_end (rs_1 Tryd.results55 (rv_cell (j := 0) rfl (hG 0 rfl) Tryd.isAgg109 (sz (ChangeS.len _) Tryd.sizeOf109) (sub_all _) rfl)) ⟨rfl, rfl, rfl⟩ [] rfl 1 rfl [] rfl 4 rfl
    · intro hb10
      have H := cnd_f H hb10
      refine s_seq ?_
      refine s_reg [0, 1] rfl ?_
      refine o_pu rfl (ev_bin rfl rfl rfl rfl (eql_i _ 3)) (g0 rfl) rfl rfl ?_
      refine o_pu rfl (ev_assign rfl rfl) (g0 rfl) rfl rfl ?_
      refine o_nil ?_
      refine q_then ?_
      refine s_cond rfl ?_ ?_
      · intro hb13
        have H := cnd_t H hb13
        refine s_seq ?_
        refine s_reg [0, 1, 2, 3] rfl ?_
        refine o_ld (hG 3 rfl) rfl (ev_ldN (j := 0) rfl rfl Tryd.isAgg74 (sz (MetaS.len _) Tryd.sizeOf74) (sub_all _) rfl) (g0 rfl) rfl rfl ?_
        refine o_ld (hG 1 rfl) rfl (ev_ldN (j := 0) rfl rfl Tryd.isAgg86 (sz (FactS.len _) Tryd.sizeOf86) (sub_all _) rfl) (g0 rfl) rfl rfl ?_
        obtain ⟨r14, Hc15, H⟩ := bind_some' H
        refine oc (k_call (c_update_verify a0_m a2_f r14 Hc15) Tryd.call78 rfl rfl rfl [] [] rfl rfl (g0 rfl) rfl rfl ?_)
        rintro _ _ _ ⟨rfl, rfl, rfl⟩
        dsimp only [app]
        refine oc (k_st (j := 0) rfl rfl rfl rfl (vs := ChangeS.cells r14) rfl (sz (ChangeS.len _) Tryd.sizeOf109) (ChangeS.sc _) 0 rfl (spl_all ((ChangeS.len _).trans (ChangeS.len _).symm)) rfl (g0 rfl) rfl ?_)
        refine o_nil ?_
        refine q_then ?_
        refine s_ret ?_
        refine q_block_r ?_
        refine q_then_r ?_
        cases H
        exact q_end (rs_1 Tryd.results55 (rv_cell (j := 0) rfl (hG 0 rfl) Tryd.isAgg109 (sz (ChangeS.len _) Tryd.sizeOf109) (sub_all _) rfl)) ⟨rfl, rfl, rfl⟩ [] rfl 1 rfl [] rfl 4 rfl
      · intro hb13
        have H := cnd_f H hb13
        refine s_seq ?_
        refine s_reg [0, 1] rfl ?_
        refine o_pu rfl (ev_bin rfl rfl rfl rfl (eql_i _ 4)) (g0 rfl) rfl rfl ?_
        refine o_pu rfl (ev_assign rfl rfl) (g0 rfl) rfl rfl ?_
        refine o_nil ?_
        refine q_then ?_
        refine s_cond rfl ?_ ?_
        · intro hb16
          have H := cnd_t H hb16
          refine s_seq ?_
          refine s_reg [0, 1, 2, 3] rfl ?_
          refine o_ld (hG 3 rfl) rfl (ev_ldN (j := 0) rfl rfl Tryd.isAgg74 (sz (MetaS.len _) Tryd.sizeOf74) (sub_all _) rfl) (g0 rfl) rfl rfl ?_
          refine o_ld (hG 1 rfl) rfl (ev_ldN (j := 0) rfl rfl Tryd.isAgg86 (sz (FactS.len _) Tryd.sizeOf86) (sub_all _) rfl) (g0 rfl) rfl rfl ?_
          obtain ⟨r17, Hc18, H⟩ := bind_some' H
          refine oc (k_call (c_update_commit a0_m a2_f r17 Hc18) Tryd.call79 rfl rfl rfl [] [] rfl rfl (g0 rfl) rfl rfl ?_)
          rintro _ _ _ ⟨rfl, rfl, rfl⟩
          dsimp only [app]
          refine oc (k_st (j := 0) rfl rfl rfl rfl (vs := ChangeS.cells r17) rfl (sz (ChangeS.len _) Tryd.sizeOf109) (ChangeS.sc _) 0 rfl (spl_all ((ChangeS.len _).trans (ChangeS.len _).symm)) rfl (g0 rfl) rfl ?_)
          refine o_nil ?_
          refine q_then ?_
          refine s_ret ?_
          refine q_block_r ?_
          refine q_then_r ?_
          cases H
          exact q_end (rs_1 Tryd.results55 (rv_cell (j := 0) rfl (hG 0 rfl) Tryd.isAgg109 (sz (ChangeS.len _) Tryd.sizeOf109) (sub_all _) rfl)) ⟨rfl, rfl, rfl⟩ [] rfl 1 rfl [] rfl 4 rfl
        · intro hb16
          have H := cnd_f H hb16
          refine s_seq ?_
          refine s_reg [0, 1] rfl ?_
          refine o_pu rfl (ev_bin rfl rfl rfl rfl (eql_i _ 5)) (g0 rfl) rfl rfl ?_
          refine o_pu rfl (ev_assign rfl rfl) (g0 rfl) rfl rfl ?_
          refine o_nil ?_
          refine q_then ?_
          refine s_cond rfl ?_ ?_
          · intro hb19
            have H := cnd_t H hb19
            refine s_seq ?_
            refine s_reg [0, 1, 2, 3] rfl ?_
            refine o_ld (hG 3 rfl) rfl (ev_ldN (j := 0) rfl rfl Tryd.isAgg74 (sz (MetaS.len _) Tryd.sizeOf74) (sub_all _) rfl) (g0 rfl) rfl rfl ?_
            refine o_ld (hG 1 rfl) rfl (ev_ldN (j := 0) rfl rfl Tryd.isAgg86 (sz (FactS.len _) Tryd.sizeOf86) (sub_all _) rfl) (g0 rfl) rfl rfl ?_
            obtain ⟨r20, Hc21, H⟩ := bind_some' H
            refine oc (k_call (c_update_boot a0_m a2_f r20 Hc21) Tryd.call80 rfl rfl rfl [] [] rfl rfl (g0 rfl) rfl rfl ?_)
            rintro _ _ _ ⟨rfl, rfl, rfl⟩
            dsimp only [app]
            refine oc (k_st (j := 0) rfl rfl rfl rfl (vs := ChangeS.cells r20) rfl (sz (ChangeS.len _) Tryd.sizeOf109) (ChangeS.sc _) 0 rfl (spl_all ((ChangeS.len _).trans (ChangeS.len _).symm)) rfl (g0 rfl) rfl ?_)
            refine o_nil ?_
            refine q_then ?_
            refine s_ret ?_
            refine q_block_r ?_
            refine q_then_r ?_
            cases H
            exact q_end (rs_1 Tryd.results55 (rv_cell (j := 0) rfl (hG 0 rfl) Tryd.isAgg109 (sz (ChangeS.len _) Tryd.sizeOf109) (sub_all _) rfl)) ⟨rfl, rfl, rfl⟩ [] rfl 1 rfl [] rfl 4 rfl
          · intro hb19
            have H := cnd_f H hb19
            refine s_seq ?_
            refine s_reg [0, 1] rfl ?_
            refine o_pu rfl (ev_bin rfl rfl rfl rfl (eql_i _ 6)) (g0 rfl) rfl rfl ?_
            refine o_pu rfl (ev_assign rfl rfl) (g0 rfl) rfl rfl ?_
            refine o_nil ?_
            refine q_then ?_
            refine s_cond rfl ?_ ?_
            · intro hb22
              have H := cnd_t H hb22
              refine s_seq ?_
              refine s_reg [0, 1, 2, 3] rfl ?_
              refine o_ld (hG 3 rfl) rfl (ev_ldN (j := 0) rfl rfl Tryd.isAgg74 (sz (MetaS.len _) Tryd.sizeOf74) (sub_all _) rfl) (g0 rfl) rfl rfl ?_
              refine o_ld (hG 1 rfl) rfl (ev_ldN (j := 0) rfl rfl Tryd.isAgg86 (sz (FactS.len _) Tryd.sizeOf86) (sub_all _) rfl) (g0 rfl) rfl rfl ?_
              obtain ⟨r23, Hc24, H⟩ := bind_some' H
              refine oc (k_call (c_update_confirm a0_m a2_f r23 Hc24) Tryd.call81 rfl rfl rfl [] [] rfl rfl (g0 rfl) rfl rfl ?_)
              rintro _ _ _ ⟨rfl, rfl, rfl⟩
              dsimp only [app]
              refine oc (k_st (j := 0) rfl rfl rfl rfl (vs := ChangeS.cells r23) rfl (sz (ChangeS.len _) Tryd.sizeOf109) (ChangeS.sc _) 0 rfl (spl_all ((ChangeS.len _).trans (ChangeS.len _).symm)) rfl (g0 rfl) rfl ?_)
              refine o_nil ?_
              refine q_then ?_
              refine s_ret ?_
              refine q_block_r ?_
              refine q_then_r ?_
              cases H
              exact q_end (rs_1 Tryd.results55 (rv_cell (j := 0) rfl (hG 0 rfl) Tryd.isAgg109 (sz (ChangeS.len _) Tryd.sizeOf109) (sub_all _) rfl)) ⟨rfl, rfl, rfl⟩ [] rfl 1 rfl [] rfl 4 rfl
            · intro hb22
              have H := cnd_f H hb22
              refine s_seq ?_
              refine s_reg [0, 1] rfl ?_
              refine o_pu rfl (ev_bin rfl rfl rfl rfl (eql_i _ 7)) (g0 rfl) rfl rfl ?_
              refine o_pu rfl (ev_assign rfl rfl) (g0 rfl) rfl rfl ?_
              refine o_nil ?_
              refine q_then ?_
              refine s_cond rfl ?_ ?_
              · intro hb25
                have H := cnd_t H hb25
                refine s_seq ?_
                refine s_reg [0, 1, 2, 3] rfl ?_
                refine o_ld (hG 3 rfl) rfl (ev_ldN (j := 0) rfl rfl Tryd.isAgg74 (sz (MetaS.len _) Tryd.sizeOf74) (sub_all _) rfl) (g0 rfl) rfl rfl ?_
                refine o_ld (hG 1 rfl) rfl (ev_ldN (j := 0) rfl rfl Tryd.isAgg86 (sz (FactS.len _) Tryd.sizeOf86) (sub_all _) rfl) (g0 rfl) rfl rfl ?_
                obtain ⟨r26, Hc27, H⟩ := bind_some' H
                refine oc (k_call (c_update_rollback a0_m a2_f r26 Hc27) Tryd.call82 rfl rfl rfl [] [] rfl rfl (g0 rfl) rfl rfl ?_)
                rintro _ _ _ ⟨rfl, rfl, rfl⟩
                dsimp only [app]
                refine oc (k_st (j := 0) rfl rfl rfl rfl (vs := ChangeS.cells r26) rfl (sz (ChangeS.len _) Tryd.sizeOf109) (ChangeS.sc _) 0 rfl (spl_all ((ChangeS.len _).trans (ChangeS.len _).symm)) rfl (g0 rfl) rfl ?_)
                refine o_nil ?_
                refine q_then ?_
                refine s_ret ?_
                refine q_block_r ?_
                refine q_then_r ?_
                cases H
                exact q_end (rs_1 Tryd.results55 (rv_cell (j := 0) rfl (hG 0 rfl) Tryd.isAgg109 (sz (ChangeS.len _) Tryd.sizeOf109) (sub_all _) rfl)) ⟨rfl, rfl, rfl⟩ [] rfl 1 rfl [] rfl 4 rfl
              · intro hb25
                have H := cnd_f H hb25
                refine s_seq ?_
                refine s_reg [0, 1] rfl ?_
                refine o_pu rfl (ev_bin rfl rfl rfl rfl (eql_i _ 8)) (g0 rfl) rfl rfl ?_
                refine o_pu rfl (ev_assign rfl rfl) (g0 rfl) rfl rfl ?_
                refine o_nil ?_
                refine q_then ?_
                refine s_cond rfl ?_ ?_
                · intro hb28
                  have H := cnd_t H hb28
                  refine s_seq ?_
                  refine s_reg [0, 1, 2, 3] rfl ?_
                  refine o_ld (hG 3 rfl) rfl (ev_ldN (j := 0) rfl rfl Tryd.isAgg74 (sz (MetaS.len _) Tryd.sizeOf74) (sub_all _) rfl) (g0 rfl) rfl rfl ?_
                  refine o_ld (hG 1 rfl) rfl (ev_ldN (j := 0) rfl rfl Tryd.isAgg86 (sz (FactS.len _) Tryd.sizeOf86) (sub_all _) rfl) (g0 rfl) rfl rfl ?_
                  obtain ⟨r29, Hc30, H⟩ := bind_some' H
                  refine oc (k_call (c_update_abort a0_m a2_f r29 Hc30) Tryd.call83 rfl rfl rfl [] [] rfl rfl (g0 rfl) rfl rfl ?_)
                  rintro _ _ _ ⟨rfl, rfl, rfl⟩
                  dsimp only [app]
                  refine oc (k_st (j := 0) rfl rfl rfl rfl (vs := ChangeS.cells r29) rfl (sz (ChangeS.len _) Tryd.sizeOf109) (ChangeS.sc _) 0 rfl (spl_all ((ChangeS.len _).trans (ChangeS.len _).symm)) rfl (g0 rfl) rfl ?_)
                  refine o_nil ?_
                  refine q_then ?_
                  refine s_ret ?_
                  refine q_block_r ?_
                  refine q_then_r ?_
                  cases H
                  exact q_end (rs_1 Tryd.results55 (rv_cell (j := 0) rfl (hG 0 rfl) Tryd.isAgg109 (sz (ChangeS.len _) Tryd.sizeOf109) (sub_all _) rfl)) ⟨rfl, rfl, rfl⟩ [] rfl 1 rfl [] rfl 4 rfl
                · intro hb28
                  have H := cnd_f H hb28
                  refine s_seq ?_
                  refine s_reg [0, 1] rfl ?_
                  refine o_pu rfl (ev_bin rfl rfl rfl rfl (eql_i _ 9)) (g0 rfl) rfl rfl ?_
                  refine o_pu rfl (ev_assign rfl rfl) (g0 rfl) rfl rfl ?_
                  refine o_nil ?_
                  refine q_then ?_
                  refine s_cond rfl ?_ ?_
                  · intro hb31
                    have H := cnd_t H hb31
                    refine s_seq ?_
                    refine s_reg [0, 1, 2, 3, 4, 5, 6, 7] rfl ?_
                    refine o_ld (hG 3 rfl) rfl (ev_ldN (j := 0) rfl rfl Tryd.isAgg74 (sz (MetaS.len _) Tryd.sizeOf74) (sub_all _) rfl) (g0 rfl) rfl rfl ?_
                    refine o_pu rfl (ev_fieldAddr rfl rfl Tryd.runUnderlying74 rfl Tryd.sizeOf3 rfl rfl) (g0 rfl) rfl rfl ?_
                    refine o_ld (hG 3 rfl) rfl (ev_ld1 (j := 70) rfl rfl Tryd.isAgg3 (MetaS.sub_Phase _) rfl) (g0 rfl) rfl rfl ?_
                    refine o_pu rfl (ev_fieldAddr rfl rfl Tryd.runUnderlying74 rfl Tryd.sizeOf3 rfl rfl) (g0 rfl) rfl rfl ?_
                    refine o_ld (hG 3 rfl) rfl (ev_ld1 (j := 105) rfl rfl Tryd.isAgg3 (MetaS.sub_Got _) rfl) (g0 rfl) rfl rfl ?_
                    refine o_pu rfl (ev_build (cs := RespS.cells (⟨0, a0_m.Phase, a0_m.Got⟩ : RespS)) rfl rfl Tryd.zeroValue48 Tryd.runUnderlying48 pl48 (show Instr.fill _ (RespS.cells RespS.zero : List Value).toArray _ = some _ from (fill_cons rfl (s := [vi a0_m.Phase]) rfl rfl (RespS.set_N _ a0_m.Phase) (fill_cons rfl (s := [vi a0_m.Got]) rfl rfl (RespS.set_Got _ a0_m.Got) fill_nil)))) (g0 rfl) rfl rfl ?_
                    refine o_pu rfl (ev_build (cs := ChangeS.cells (⟨a0_m, (⟨0, a0_m.Phase, a0_m.Got⟩ : RespS)⟩ : ChangeS)) rfl rfl Tryd.zeroValue109 Tryd.runUnderlying109 pl109 (show Instr.fill _ (ChangeS.cells ChangeS.zero : List Value).toArray _ = some _ from (fill_cons rfl (s := MetaS.cells a0_m) rfl (MetaS.len _) (ChangeS.set_m _ a0_m) (fill_cons rfl (s := RespS.cells (⟨0, a0_m.Phase, a0_m.Got⟩ : RespS)) rfl (RespS.len _) (ChangeS.set_r _ (⟨0, a0_m.Phase, a0_m.Got⟩ : RespS)) fill_nil)))) (g0 rfl) rfl rfl ?_
                    refine oc (k_st (j := 0) rfl rfl rfl rfl (vs := ChangeS.cells (⟨a0_m, (⟨0, a0_m.Phase, a0_m.Got⟩ : RespS)⟩ : ChangeS)) rfl (sz (ChangeS.len _) Tryd.sizeOf109) (ChangeS.sc _) 0 rfl (spl_all ((ChangeS.len _).trans (ChangeS.len _).symm)) rfl (g0 rfl) rfl ?_)
                    refine o_nil ?_
                    refine q_then ?_
                    refine s_ret ?_
                    refine q_block_r ?_
                    refine q_then_r ?_
                    cases H
                    exact q_end (rs_1 Tryd.results55 (rv_cell (j := 0) rfl (hG 0 rfl) Tryd.isAgg109 (sz (ChangeS.len _) Tryd.sizeOf109) (sub_all _) rfl)) ⟨rfl, rfl, rfl⟩ [] rfl 1 rfl [] rfl 4 rfl
                  · intro hb31
                    have H := cnd_f H hb31
                    refine s_skip ?_
                    refine q_block ?_
                    refine q_then ?_
                    refine s_seq ?_
                    refine s_reg [0, 1] rfl ?_
                    obtain ⟨r32, Hc33, H⟩ := bind_some' H
                    refine oc (k_call (c_update_fails 1 r32 Hc33) Tryd.call84 rfl rfl rfl [] [] rfl rfl (g0 rfl) rfl rfl ?_)
                    rintro _ _ _ ⟨rfl, rfl, rfl⟩
                    dsimp only [app]
                    refine oc (k_st (j := 0) rfl rfl rfl rfl (vs := ChangeS.cells r32) rfl (sz (ChangeS.len _) Tryd.sizeOf109) (ChangeS.sc _) 0 rfl (spl_all ((ChangeS.len _).trans (ChangeS.len _).symm)) rfl (g0 rfl) rfl ?_)
                    refine o_nil ?_
                    refine q_then ?_
                    refine s_ret ?_
                    cases H
                    exact q_end (rs_1 Tryd.results55 (rv_cell (j := 0) rfl (hG 0 rfl) Tryd.isAgg109 (sz (ChangeS.len _) Tryd.sizeOf109) (sub_all _) rfl)) ⟨rfl, rfl, rfl⟩ [] rfl 1 rfl [] rfl 4 rfl

def update_Do (a0_m : MetaS) (a1_q : Req) (a2_f : FactS) (a3_quota : Int) : Option (MetaS × RespS) :=
(meta_Right a0_m).bind fun r8 =>
bif (!r8) then (
some (a0_m, (⟨1, 0, 0⟩ : RespS))) else (
(update_does a0_m (⟨a1_q.Kind, a1_q.N, a1_q.Bytes⟩ : Req) a2_f a3_quota).bind fun r11 =>
bif (r11.r.Err != 0) then (
some (a0_m, r11.r)) else (
some (r11.m, r11.r)))

theorem c_update_Do (a0_m : MetaS) (a1_q : Req) (A1 : Option Addr) (c2 : Nat) (a2_f : FactS) (a3_quota : Int) (r : MetaS × RespS) (H : update_Do a0_m a1_q a2_f a3_quota = some r) : Fn Tryd.prog 34 [(.agg (MetaS.cells a0_m).toArray), (.agg ([vi a1_q.Kind, vi a1_q.N, .slice A1 a1_q.Bytes.length c2]).toArray), (.agg (FactS.cells a2_f).toArray), (vi a3_quota)] [Sl E8 A1 c2 a1_q.Bytes] [] (fun v D' G' => v = (.tuple #[(.agg (MetaS.cells r.1).toArray), (.agg (RespS.cells r.2).toArray)]) ∧ D' = [] ∧ G' = []) := by
  unfold update_Do at H
  refine fn_of Tryd.func34 rfl Tryd.ntmps34 rfl ?_
  intro w0 D0 G0
  dsimp only [app, initEnv, Nat.zero_add, Nat.reduceAdd]
  refine s_seq ?_
  refine s_reg [0, 1, 2, 3, 4] rfl ?_
  refine oc (k_box rfl rfl rfl (cs := MetaS.cells a0_m) rfl (g0 rfl) rfl rfl ?_)
  intro b3
  refine oc (k_box rfl rfl rfl (cs := [vi a1_q.Kind, vi a1_q.N, .slice A1 a1_q.Bytes.length c2]) rfl (g0 rfl) rfl rfl ?_)
  intro b4
  refine oc (k_box rfl rfl rfl (cs := FactS.cells a2_f) rfl (g0 rfl) rfl rfl ?_)
  intro b5
  refine oc (k_alloc rfl rfl Tryd.zeroValue74 (cs := MetaS.cells MetaS.zero) rfl (g0 rfl) rfl rfl ?_)
  intro b6
  refine oc (k_alloc rfl rfl Tryd.zeroValue48 (cs := RespS.cells RespS.zero) rfl (g0 rfl) rfl rfl ?_)
  intro b7
  refine o_nil ?_
  refine q_then ?_
  refine s_seq ?_
  refine s_seq ?_
  refine s_reg [0, 1, 2] rfl ?_
  refine o_ld (hG 4 rfl) rfl (ev_ldN (j := 0) rfl rfl Tryd.isAgg74 (sz (MetaS.len _) Tryd.sizeOf74) (sub_all _) rfl) (g0 rfl) rfl rfl ?_
  obtain ⟨r8, Hc9, H⟩ := bind_some' H
  refine oc (k_call (c_meta_Right a0_m r8 Hc9) Tryd.call54 rfl rfl rfl [] [] rfl rfl (g0 rfl) rfl rfl ?_)
  rintro _ _ _ ⟨rfl, rfl, rfl⟩
  dsimp only [app]
  refine o_pu rfl (ev_not rfl rfl) (g0 rfl) rfl rfl ?_
  refine o_nil ?_
  refine q_then ?_
  refine s_cond rfl ?_ ?_
  · intro hb10
    have H := cnd_t H hb10
    refine s_seq ?_
    refine s_reg [0, 1, 2, 3] rfl ?_
    refine o_ld (hG 4 rfl) rfl (ev_ldN (j := 0) rfl rfl Tryd.isAgg74 (sz (MetaS.len _) Tryd.sizeOf74) (sub_all _) rfl) (g0 rfl) rfl rfl ?_
    refine o_pu rfl (ev_build (cs := RespS.cells (⟨1, 0, 0⟩ : RespS)) rfl rfl Tryd.zeroValue48 Tryd.runUnderlying48 pl48 (show Instr.fill _ (RespS.cells RespS.zero : List Value).toArray _ = some _ from (fill_cons rfl (s := [vi 1]) rfl rfl (RespS.set_Err _ 1) fill_nil))) (g0 rfl) rfl rfl ?_
    refine oc (k_st (j := 0) rfl rfl rfl rfl (vs := MetaS.cells a0_m) rfl (sz (MetaS.len _) Tryd.sizeOf74) (MetaS.sc _) 1 rfl (spl_all ((MetaS.len _).trans (MetaS.len _).symm)) rfl (g0 rfl) rfl ?_)
    refine oc (k_st (j := 0) rfl rfl rfl rfl (vs := RespS.cells (⟨1, 0, 0⟩ : RespS)) rfl (sz (RespS.len _) Tryd.sizeOf48) (RespS.sc _) 0 rfl (spl_all ((RespS.len _).trans (RespS.len _).symm)) rfl (g0 rfl) rfl ?_)
    refine o_nil ?_
    refine q_then ?_
    refine s_ret ?_
    refine q_then_r ?_
    cases H
    exact q_end (rs_2 Tryd.results34 (rv_cell (j := 0) rfl (hG 1 rfl) Tryd.isAgg74 (sz (MetaS.len _) Tryd.sizeOf74) (sub_all _) rfl) (rv_cell (j := 0) rfl (hG 0 rfl) Tryd.isAgg48 (sz (RespS.len _) Tryd.sizeOf48) (sub_all _) rfl)) ⟨rfl, rfl, rfl⟩ [] rfl 1 rfl [] rfl 5 rfl
  · intro hb10
    have H := cnd_f H hb10
    refine s_skip ?_
    refine q_then ?_
    refine s_seq ?_
    refine s_reg [0, 1, 2, 3, 4, 5, 6] rfl ?_
    refine o_ld (hG 4 rfl) rfl (ev_ldN (j := 0) rfl rfl Tryd.isAgg74 (sz (MetaS.len _) Tryd.sizeOf74) (sub_all _) rfl) (g0 rfl) rfl rfl ?_
    refine o_ld (hG 3 rfl) rfl (ev_ldN (j := 0) (s := [vi a1_q.Kind, vi a1_q.N, .slice A1 a1_q.Bytes.length c2]) rfl rfl Tryd.isAgg34 (sz rfl Tryd.sizeOf34) (sub_all _) rfl) (g0 rfl) rfl rfl ?_
    refine o_ld (hG 2 rfl) rfl (ev_ldN (j := 0) rfl rfl Tryd.isAgg86 (sz (FactS.len _) Tryd.sizeOf86) (sub_all _) rfl) (g0 rfl) rfl rfl ?_
    refine o_pu rfl (ev_move rfl rfl) (g0 rfl) rfl rfl ?_
    obtain ⟨r11, Hc12, H⟩ := bind_some' H
    refine oc (k_call (c_update_does a0_m (⟨a1_q.Kind, a1_q.N, a1_q.Bytes⟩ : Req) A1 c2 a2_f a3_quota r11 Hc12) Tryd.call55 rfl rfl rfl [0] [] rfl rfl (g0 rfl) rfl rfl ?_)
    rintro _ _ _ ⟨rfl, rfl, rfl⟩
    dsimp only [app]
    refine oc (k_alloc rfl rfl Tryd.zeroValue109 (cs := ChangeS.cells ChangeS.zero) rfl (g0 rfl) rfl rfl ?_)
    intro b13
    refine oc (k_st (j := 0) rfl rfl rfl rfl (vs := ChangeS.cells r11) rfl (sz (ChangeS.len _) Tryd.sizeOf109) (ChangeS.sc _) 0 rfl (spl_all ((ChangeS.len _).trans (ChangeS.len _).symm)) rfl (g0 rfl) rfl ?_)
    refine o_nil ?_
    refine q_then ?_
    refine s_seq ?_
    refine s_seq ?_
    refine s_reg [0, 1, 2, 3] rfl ?_
    refine o_pu rfl (ev_fieldAddr rfl rfl Tryd.runUnderlying109 rfl Tryd.sizeOf48 rfl rfl) (g0 rfl) rfl rfl ?_
    refine o_pu rfl (ev_fieldAddr rfl rfl Tryd.runUnderlying48 rfl Tryd.sizeOf24 rfl rfl) (g0 rfl) rfl rfl ?_
    refine o_ld (hG 0 rfl) rfl (ev_ld1 (j := 107) rfl rfl Tryd.isAgg24 (sub_sub (ChangeS.sub_r _) (RespS.sub_Err _) rfl) rfl) (g0 rfl) rfl rfl ?_
    refine o_pu rfl (ev_bin rfl rfl rfl rfl (neq_i _ 0)) (g0 rfl) rfl rfl ?_
    refine o_nil ?_
    refine q_then ?_
    refine s_cond rfl ?_ ?_
    · intro hb14
      have H := cnd_t H hb14
      refine s_seq ?_
      refine s_draw mixed [(0, [3, 4], Has b3 0 (MetaS.cells a0_m)), (2, [4], Has b13 0 (ChangeS.cells r11))] ?_
      refine a_ld 0 0 rfl rfl (ev_ldN (j := 0) rfl rfl Tryd.isAgg74 (sz (MetaS.len _) Tryd.sizeOf74) (sub_all _) rfl) (by kernel_rfl) (by rfl) (by kernel_rfl) (by kernel_rfl) (by kernel_rfl) (by kernel_rfl) (fun _ _ _ h => h) (g0 rfl) rfl rfl ?_
      refine a_pu 1 rfl (ev_fieldAddr rfl rfl Tryd.runUnderlying109 rfl Tryd.sizeOf48 rfl rfl) (by rfl) (by kernel_rfl) (by kernel_rfl) (by kernel_rfl) (fun _ _ _ h => h) (g0 rfl) rfl rfl ?_
      refine a_ld 2 1 rfl rfl (ev_ldN (j := 107) rfl rfl Tryd.isAgg48 (sz (RespS.len _) Tryd.sizeOf48) (ChangeS.sub_r _) rfl) (by kernel_rfl) (by rfl) (by kernel_rfl) (by kernel_rfl) (by kernel_rfl) (by kernel_rfl) (fun _ _ _ h => h) (g0 rfl) rfl rfl ?_
      refine ac 3 (by kernel_rfl) (sl_cons (hG 5 rfl) (sl_cons (hG 0 rfl) sl_nil)) ?_
      refine k_st (j := 0) rfl rfl rfl rfl (vs := MetaS.cells a0_m) rfl (sz (MetaS.len _) Tryd.sizeOf74) (MetaS.sc _) 2 rfl (spl_all ((MetaS.len _).trans (MetaS.len _).symm)) rfl (g0 rfl) rfl ?_
      refine ac 4 (by kernel_rfl) (sl_end (by kernel_rfl) (sl_cons (hG 0 rfl) sl_nil)) ?_
      refine k_st (j := 0) rfl rfl rfl rfl (vs := RespS.cells r11.r) rfl (sz (RespS.len _) Tryd.sizeOf48) (RespS.sc _) 1 rfl (spl_all ((RespS.len _).trans (RespS.len _).symm)) rfl (g0 rfl) rfl ?_
      refine a_done (by kernel_rfl) (sl_end (by kernel_rfl) (sl_end (by kernel_rfl) sl_nil)) ?_
      refine q_then ?_
      refine s_ret ?_
      refine q_then_r ?_
      cases H
      exact q_end (rs_2 Tryd.results34 (rv_cell (j := 0) rfl (hG 2 rfl) Tryd.isAgg74 (sz (MetaS.len _) Tryd.sizeOf74) (sub_all _) rfl) (rv_cell (j := 0) rfl (hG 1 rfl) Tryd.isAgg48 (sz (RespS.len _) Tryd.sizeOf48) (sub_all _) rfl)) ⟨rfl, rfl, rfl⟩ [] rfl 1 rfl [] rfl 6 rfl
    · intro hb14
      have H := cnd_f H hb14
      refine s_skip ?_
      refine q_then ?_
      refine s_seq ?_
      refine s_draw mixed [(1, [4, 5], Has b13 0 (ChangeS.cells r11)), (3, [5], Has b13 0 (ChangeS.cells r11))] ?_
      refine a_pu 0 rfl (ev_fieldAddr rfl rfl Tryd.runUnderlying109 rfl Tryd.sizeOf74 rfl rfl) (by rfl) (by kernel_rfl) (by kernel_rfl) (by kernel_rfl) (fun _ _ _ h => h) (g0 rfl) rfl rfl ?_
      refine a_ld 1 0 rfl rfl (ev_ldN (j := 0) rfl rfl Tryd.isAgg74 (sz (MetaS.len _) Tryd.sizeOf74) (ChangeS.sub_m _) rfl) (by kernel_rfl) (by rfl) (by kernel_rfl) (by kernel_rfl) (by kernel_rfl) (by kernel_rfl) (fun _ _ _ h => h) (g0 rfl) rfl rfl ?_
      refine a_pu 2 rfl (ev_fieldAddr rfl rfl Tryd.runUnderlying109 rfl Tryd.sizeOf48 rfl rfl) (by rfl) (by kernel_rfl) (by kernel_rfl) (by kernel_rfl) (fun _ _ _ h => h) (g0 rfl) rfl rfl ?_
      refine a_ld 3 1 rfl rfl (ev_ldN (j := 107) rfl rfl Tryd.isAgg48 (sz (RespS.len _) Tryd.sizeOf48) (ChangeS.sub_r _) rfl) (by kernel_rfl) (by rfl) (by kernel_rfl) (by kernel_rfl) (by kernel_rfl) (by kernel_rfl) (fun _ _ _ h => h) (g0 rfl) rfl rfl ?_
      refine ac 4 (by kernel_rfl) (sl_cons (hG 0 rfl) (sl_cons (hG 0 rfl) sl_nil)) ?_
      refine k_st (j := 0) rfl rfl rfl rfl (vs := MetaS.cells r11.m) rfl (sz (MetaS.len _) Tryd.sizeOf74) (MetaS.sc _) 2 rfl (spl_all ((MetaS.len _).trans (MetaS.len _).symm)) rfl (g0 rfl) rfl ?_
      refine ac 5 (by kernel_rfl) (sl_end (by kernel_rfl) (sl_cons (hG 0 rfl) sl_nil)) ?_
      refine k_st (j := 0) rfl rfl rfl rfl (vs := RespS.cells r11.r) rfl (sz (RespS.len _) Tryd.sizeOf48) (RespS.sc _) 1 rfl (spl_all ((RespS.len _).trans (RespS.len _).symm)) rfl (g0 rfl) rfl ?_
      refine a_done (by kernel_rfl) (sl_end (by kernel_rfl) (sl_end (by kernel_rfl) sl_nil)) ?_
      refine q_then ?_
      refine s_ret ?_
      cases H
      exact q_end (rs_2 Tryd.results34 (rv_cell (j := 0) rfl (hG 2 rfl) Tryd.isAgg74 (sz (MetaS.len _) Tryd.sizeOf74) (sub_all _) rfl) (rv_cell (j := 0) rfl (hG 1 rfl) Tryd.isAgg48 (sz (RespS.len _) Tryd.sizeOf48) (sub_all _) rfl)) ⟨rfl, rfl, rfl⟩ [] rfl 1 rfl [] rfl 6 rfl

end Go.Proofs.YtphbbnlbfbhcaaaDoor.Wl
