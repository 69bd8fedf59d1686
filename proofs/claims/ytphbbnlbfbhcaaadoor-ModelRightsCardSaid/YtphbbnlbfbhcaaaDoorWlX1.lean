import Derived.Test.YtphbbnlbfbhcaaaDoorWlW
import Derived.Test.YtphbbnlbfbhcaaaDoorWlX0
set_option linter.unusedSimpArgs false
set_option linter.unusedVariables false
set_option maxRecDepth 10000
namespace Go.Proofs.YtphbbnlbfbhcaaaDoor.Wl
open Go.RowKit Go.Proofs
def hmac_Same_l0 (a0_a : List UInt8) (a1_b : List UInt8) (J6 : UInt8 → Option Bool) : Nat → (UInt8 × Int) → Option Bool
  | 0, _ => none
  | k9 + 1, s9 =>
    bif (decide (s9.2 < (a0_a.length : Int))) then (
    chk (0 ≤ s9.2 ∧ s9.2 < a0_a.length) <|
    chk (0 ≤ s9.2 ∧ s9.2 < a1_b.length) <|
    hmac_Same_l0 a0_a a1_b J6 k9 ((s9.1 ||| ((at' 0 a0_a s9.2) ^^^ (at' 0 a1_b s9.2))), (wrap64 (s9.2 + 1)))) else (
    J6 s9.1)

def hmac_Same (a0_a : List UInt8) (a1_b : List UInt8) : Option Bool :=
bif ((a0_a.length : Int) != (a1_b.length : Int)) then (
some false) else (
jn (fun (x7 : UInt8) =>
some ((x7 : UInt8) == (0 : UInt8))) fun J6 =>
hmac_Same_l0 a0_a a1_b J6 Fuel (0, 0))

theorem c_hmac_Same (a0_a : List UInt8) (A1 : Option Addr) (c2 : Nat) (a1_b : List UInt8) (A3 : Option Addr) (c4 : Nat) (r : Bool) (H : hmac_Same a0_a a1_b = some r) : Fn Tryd.prog 91 [(.slice A1 a0_a.length c2), (.slice A3 a1_b.length c4)] [Sl E8 A3 c4 a1_b, Sl E8 A1 c2 a0_a] [] (fun v D' G' => v = (vb r) ∧ D' = [] ∧ G' = []) := by
  unfold hmac_Same at H
  refine fn_of Tryd.func91 rfl Tryd.ntmps91 rfl ?_
  intro w0 D0 G0
  dsimp only [app, initEnv, Nat.zero_add, Nat.reduceAdd]
  refine s_seq ?_
  refine s_reg [0] rfl ?_
  refine o_pu rfl (ev_assign rfl rfl) (g0 rfl) rfl rfl ?_
  refine o_nil ?_
  refine q_then ?_
  refine s_seq ?_
  refine s_seq ?_
  refine s_reg [0, 1, 2, 3, 4] rfl ?_
  refine o_pu rfl (ev_move rfl rfl) (g0 rfl) rfl rfl ?_
  refine o_pu rfl (ev_len_slice rfl rfl Tryd.runUnderlying32) (g0 rfl) rfl rfl ?_
  refine o_pu rfl (ev_move rfl rfl) (g0 rfl) rfl rfl ?_
  refine o_pu rfl (ev_len_slice rfl rfl Tryd.runUnderlying32) (g0 rfl) rfl rfl ?_
  refine o_pu rfl (ev_bin rfl rfl rfl rfl (neq_i _ _)) (g0 rfl) rfl rfl ?_
  refine o_nil ?_
  refine q_then ?_
  refine s_cond rfl ?_ ?_
  · intro hb5
    have H := cnd_t H hb5
    refine s_seq ?_
    refine s_reg [0] rfl ?_
    refine o_pu rfl (ev_assign rfl rfl) (g0 rfl) rfl rfl ?_
    refine o_nil ?_
    refine q_then ?_
    refine s_ret ?_
    refine q_then_r ?_
    cases H
    exact q_end (rs_1 Tryd.results91 (rv_tmp rfl)) ⟨rfl, rfl, rfl⟩ [] rfl 2 rfl [] rfl 0 rfl
  · intro hb5
    have H := cnd_f H hb5
    refine s_skip ?_
    refine q_then ?_
    refine s_seq ?_
    refine s_reg [0] rfl ?_
    refine o_pu rfl (ev_assign rfl rfl) (g0 rfl) rfl rfl ?_
    refine o_nil ?_
    refine q_then ?_
    refine s_seq ?_
    refine s_seq ?_
    refine s_reg [0, 1, 2] rfl ?_
    refine o_pu rfl (ev_move rfl rfl) (g0 rfl) rfl rfl ?_
    refine o_pu rfl (ev_len_slice rfl rfl Tryd.runUnderlying32) (g0 rfl) rfl rfl ?_
    refine o_pu rfl (ev_move rfl rfl) (g0 rfl) rfl rfl ?_
    refine o_nil ?_
    refine q_then ?_
    refine q_join (fun (x7 : UInt8) (y8 : Unit) => ⟨Sl E8 A3 c4 a1_b :: Sl E8 A1 c2 a0_a :: D0, G0, [(5, (v8 x7))]⟩) H ?_ ?_
    · intro x7 y8 H
      dsimp only
      refine q_then ?_
      refine s_seq ?_
      refine s_reg [0, 1, 2] rfl ?_
      refine o_pu rfl (ev_move rfl rfl) (g0 rfl) rfl rfl ?_
      refine o_pu rfl (ev_bin rfl rfl rfl rfl (eql_8 _ 0)) (g0 rfl) rfl rfl ?_
      refine o_pu rfl (ev_assign rfl rfl) (g0 rfl) rfl rfl ?_
      refine o_nil ?_
      refine q_then ?_
      refine s_ret ?_
      cases H
      exact q_end (rs_1 Tryd.results91 (rv_tmp rfl)) ⟨rfl, rfl, rfl⟩ [] rfl 2 rfl [] rfl 0 rfl
    · intro J6 H
      refine s_block ?_
      refine s_loop (k_wk (loop_ind (fun (s9 : UInt8 × Int) (y9 : Unit) => ⟨Sl E8 A3 c4 a1_b :: Sl E8 A1 c2 a0_a :: D0, G0, [(0, (.slice A1 a0_a.length c2)), (1, (.slice A3 a1_b.length c4)), (5, (v8 s9.1)), (13, (vi (a0_a.length : Int))), (14, (vi s9.2))]⟩) (hmac_Same_l0 a0_a a1_b _) _ (fun _ => rfl) ?_ Fuel (0, 0) () H) [0, 1, 5, 13, 14] [0, 1] 2 [] 0 rfl rfl rfl)
      intro k9 s9 y9 ih H
      dsimp only
      rw [hmac_Same_l0] at H
      refine s_seq ?_
      refine s_reg [0] rfl ?_
      refine o_pu rfl (ev_bin rfl rfl rfl rfl (lss_i _ _)) (g0 rfl) rfl rfl ?_
      refine o_nil ?_
      refine q_then ?_
      refine s_seq ?_
      refine s_cond rfl ?_ ?_
      · intro hb10
        have H := cnd_t H hb10
        refine s_skip ?_
        refine q_then ?_
        refine s_seq ?_
        refine s_block ?_
        refine s_seq ?_
        refine s_reg [0, 1] rfl ?_
        refine o_pu rfl (ev_move rfl rfl) (g0 rfl) rfl rfl ?_
        refine o_pu rfl (ev_assign rfl rfl) (g0 rfl) rfl rfl ?_
        refine o_nil ?_
        refine q_then ?_
        obtain ⟨hk15, H⟩ := chk_some H
        refine k_elem (k := s9.2) 0 1 rfl E8_len rfl hk15 ?_
        intro b11 p12 q13 hA14
        obtain ⟨hk20, H⟩ := chk_some H
        refine k_elem (k := s9.2) 0 1 rfl E8_len rfl hk20 ?_
        intro b16 p17 q18 hA19
        refine s_draw mixed [(4, [], Has b11 q13 [v8 (at' 0 a0_a s9.2)]), (8, [], Has b16 q18 [v8 (at' 0 a1_b s9.2)])] ?_
        refine a_pu 0 rfl (ev_move rfl rfl) (by rfl) (by kernel_rfl) (by kernel_rfl) (by kernel_rfl) (fun _ _ _ h => h) (g0 rfl) rfl rfl ?_
        refine a_pu 1 rfl (ev_move rfl rfl) (by rfl) (by kernel_rfl) (by kernel_rfl) (by kernel_rfl) (fun _ _ _ h => h) (g0 rfl) rfl rfl ?_
        refine a_pu 2 rfl (ev_move rfl rfl) (by rfl) (by kernel_rfl) (by kernel_rfl) (by kernel_rfl) (fun _ _ _ h => h) (g0 rfl) rfl rfl ?_
        refine a_pu 3 rfl (ev_idx_sl rfl rfl rfl Tryd.runUnderlying32 Tryd.sizeOf5 hk15 hA14) (by rfl) (by kernel_rfl) (by kernel_rfl) (by kernel_rfl) (fun _ _ _ h => h) (g0 rfl) rfl rfl ?_
        refine a_ld 4 0 rfl rfl (ev_ld1 (j := 0) rfl rfl Tryd.isAgg5 (sub_nth (j := 0) rfl) rfl) (by kernel_rfl) (by rfl) (by kernel_rfl) (by kernel_rfl) (by kernel_rfl) (by kernel_rfl) (fun _ _ _ h => h) (g0 rfl) rfl rfl ?_
        refine a_pu 5 rfl (ev_move rfl rfl) (by rfl) (by kernel_rfl) (by kernel_rfl) (by kernel_rfl) (fun _ _ _ h => h) (g0 rfl) rfl rfl ?_
        refine a_pu 6 rfl (ev_move rfl rfl) (by rfl) (by kernel_rfl) (by kernel_rfl) (by kernel_rfl) (fun _ _ _ h => h) (g0 rfl) rfl rfl ?_
        refine a_pu 7 rfl (ev_idx_sl rfl rfl rfl Tryd.runUnderlying32 Tryd.sizeOf5 hk20 hA19) (by rfl) (by kernel_rfl) (by kernel_rfl) (by kernel_rfl) (fun _ _ _ h => h) (g0 rfl) rfl rfl ?_
        refine a_ld 8 1 rfl rfl (ev_ld1 (j := 0) rfl rfl Tryd.isAgg5 (sub_nth (j := 0) rfl) rfl) (by kernel_rfl) (by rfl) (by kernel_rfl) (by kernel_rfl) (by kernel_rfl) (by kernel_rfl) (fun _ _ _ h => h) (g0 rfl) rfl rfl ?_
        refine a_pu 9 rfl (ev_bin rfl rfl rfl rfl (xor_8 _ _)) (by rfl) (by kernel_rfl) (by kernel_rfl) (by kernel_rfl) (fun _ _ _ h => h) (g0 rfl) rfl rfl ?_
        refine a_pu 10 rfl (ev_bin rfl rfl rfl rfl (or_8 _ _)) (by rfl) (by kernel_rfl) (by kernel_rfl) (by kernel_rfl) (fun _ _ _ h => h) (g0 rfl) rfl rfl ?_
        refine a_pu 11 rfl (ev_assign rfl rfl) (by rfl) (by kernel_rfl) (by kernel_rfl) (by kernel_rfl) (fun _ _ _ h => h) (g0 rfl) rfl rfl ?_
        refine a_done (by kernel_rfl) (sl_cons (hD 1 rfl) (sl_cons (hD 0 rfl) sl_nil)) ?_
        refine q_block ?_
        refine q_then ?_
        refine s_reg [0, 1] rfl ?_
        refine o_pu rfl (ev_bin rfl rfl rfl rfl (add_i _ 1)) (g0 rfl) rfl rfl ?_
        refine o_pu rfl (ev_move rfl rfl) (g0 rfl) rfl rfl ?_
        refine o_nil ?_
        refine q_loop ?_
        exact k_wk (ih ((s9.1 ||| ((at' 0 a0_a s9.2) ^^^ (at' 0 a1_b s9.2))), (wrap64 (s9.2 + 1))) () H) [0, 1, 5, 13, 14] [2, 3] 4 [] 0 rfl rfl rfl
      · intro hb10
        have H := cnd_f H hb10
        refine s_exit ?_
        refine q_then_x ?_
        refine q_then_x ?_
        refine q_block_x ?_
        exact k_wk (J6 s9.1 () H) [5] [0, 1] 2 [] 0 rfl rfl rfl

def unicode_utf8_ValidRune (a0_r : Int) : Option Bool :=
bnd (decide (0 ≤ a0_r)) fun b1 =>
jn (fun x4 =>
bif x4 then (
some true) else (
bnd (decide (57343 < a0_r)) fun b6 =>
jn (fun x9 =>
bif x9 then (
some true) else (
some false)) fun J8 =>
bif b6 then (
J8 (decide (a0_r ≤ 1114111))) else
J8 false)) fun J3 =>
bif b1 then (
J3 (decide (a0_r < 55296))) else
J3 false

theorem c_unicode_utf8_ValidRune (a0_r : Int) (r : Bool) (H : unicode_utf8_ValidRune a0_r = some r) : Fn Tryd.prog 97 [(vr a0_r)] [] [] (fun v D' G' => v = (vb r) ∧ D' = [] ∧ G' = []) := by
  unfold unicode_utf8_ValidRune at H
  refine fn_of Tryd.func97 rfl Tryd.ntmps97 rfl ?_
  intro w0 D0 G0
  dsimp only [app, initEnv, Nat.zero_add, Nat.reduceAdd]
  refine s_seq ?_
  refine s_reg [0] rfl ?_
  refine o_pu rfl (ev_assign rfl rfl) (g0 rfl) rfl rfl ?_
  refine o_nil ?_
  refine q_then ?_
  refine s_seq ?_
  refine s_block ?_
  refine s_seq ?_
  refine s_reg [0, 1, 2, 3, 4, 5, 6] rfl ?_
  refine o_pu rfl (ev_move rfl rfl) (g0 rfl) rfl rfl ?_
  refine o_pu rfl (ev_bin rfl rfl rfl rfl (leq_r 0 _)) (g0 rfl) rfl rfl ?_
  refine o_pu rfl (ev_move rfl rfl) (g0 rfl) rfl rfl ?_
  refine k_name 6 rfl ?_
  intro b1 hb2
  have H := bnd_eq H hb2
  refine o_jb 9 [6] [0, 2, 4, 5, 6] H rfl ?_ ?_
  · intro x4 H
    refine o_pu rfl (ev_assign rfl rfl) (g0 rfl) rfl rfl ?_
    refine o_nil ?_
    refine q_then ?_
    refine s_cond rfl ?_ ?_
    · intro hb5
      have H := cnd_t H hb5
      refine s_seq ?_
      refine s_reg [0] rfl ?_
      refine o_pu rfl (ev_assign rfl rfl) (g0 rfl) rfl rfl ?_
      refine o_nil ?_
      refine q_then ?_
      refine s_ret ?_
      refine q_block_r ?_
      refine q_then_r ?_
      cases H
      exact q_end (rs_1 Tryd.results97 (rv_tmp rfl)) ⟨rfl, rfl, rfl⟩ [] rfl 0 rfl [] rfl 0 rfl
    · intro hb5
      have H := cnd_f H hb5
      refine s_seq ?_
      refine s_reg [0, 1, 2, 3, 4, 5, 6] rfl ?_
      refine o_pu rfl (ev_move rfl rfl) (g0 rfl) rfl rfl ?_
      refine o_pu rfl (ev_bin rfl rfl rfl rfl (lss_r 57343 _)) (g0 rfl) rfl rfl ?_
      refine o_pu rfl (ev_move rfl rfl) (g0 rfl) rfl rfl ?_
      refine k_name 13 rfl ?_
      intro b6 hb7
      have H := bnd_eq H hb7
      refine o_jb 16 [6] [0, 2, 3, 4, 5, 6, 9, 11, 12, 13] H rfl ?_ ?_
      · intro x9 H
        refine o_pu rfl (ev_assign rfl rfl) (g0 rfl) rfl rfl ?_
        refine o_nil ?_
        refine q_then ?_
        refine s_cond rfl ?_ ?_
        · intro hb10
          have H := cnd_t H hb10
          refine s_seq ?_
          refine s_reg [0] rfl ?_
          refine o_pu rfl (ev_assign rfl rfl) (g0 rfl) rfl rfl ?_
          refine o_nil ?_
          refine q_then ?_
          refine s_ret ?_
          refine q_block_r ?_
          refine q_then_r ?_
          cases H
          exact q_end (rs_1 Tryd.results97 (rv_tmp rfl)) ⟨rfl, rfl, rfl⟩ [] rfl 0 rfl [] rfl 0 rfl
        · intro hb10
          have H := cnd_f H hb10
          refine s_skip ?_
          refine q_block ?_
          refine q_then ?_
          refine s_seq ?_
          refine s_reg [0] rfl ?_
          refine o_pu rfl (ev_assign rfl rfl) (g0 rfl) rfl rfl ?_
          refine o_nil ?_
          refine q_then ?_
          refine s_ret ?_
          cases H
          exact q_end (rs_1 Tryd.results97 (rv_tmp rfl)) ⟨rfl, rfl, rfl⟩ [] rfl 0 rfl [] rfl 0 rfl
      · intro J8 H
        cases b6 with
        | true =>
          rw [cond_true] at H
          refine o_pu rfl (ev_move rfl rfl) (g1 rfl rfl rfl rfl) rfl rfl ?_
          refine o_pu rfl (ev_bin rfl rfl rfl rfl (leq_r _ 1114111)) (g1 rfl rfl rfl rfl) rfl rfl ?_
          refine o_pu rfl (ev_pick_t rfl rfl rfl) (g0 rfl) rfl rfl ?_
          exact k_wk (J8 (decide (a0_r ≤ 1114111)) H) [16, 0, 2, 3, 4, 5, 6, 9, 11, 12, 13] [] 0 [] 0 rfl rfl rfl
        | false =>
          rw [cond_false] at H
          refine o_gnot rfl rfl rfl rfl rfl rfl rfl rfl ?_
          refine o_gnot rfl rfl rfl rfl rfl rfl rfl rfl ?_
          refine o_pu rfl (ev_pick_f rfl rfl rfl) (g0 rfl) rfl rfl ?_
          exact k_wk (J8 false H) [16, 0, 2, 3, 4, 5, 6, 9, 11, 12, 13] [] 0 [] 0 rfl rfl rfl
  · intro J3 H
    cases b1 with
    | true =>
      rw [cond_true] at H
      refine o_pu rfl (ev_move rfl rfl) (g1 rfl rfl rfl rfl) rfl rfl ?_
      refine o_pu rfl (ev_bin rfl rfl rfl rfl (lss_r _ 55296)) (g1 rfl rfl rfl rfl) rfl rfl ?_
      refine o_pu rfl (ev_pick_t rfl rfl rfl) (g0 rfl) rfl rfl ?_
      exact k_wk (J3 (decide (a0_r < 55296)) H) [9, 0, 2, 4, 5, 6] [] 0 [] 0 rfl rfl rfl
    | false =>
      rw [cond_false] at H
      refine o_gnot rfl rfl rfl rfl rfl rfl rfl rfl ?_
      refine o_gnot rfl rfl rfl rfl rfl rfl rfl rfl ?_
      refine o_pu rfl (ev_pick_f rfl rfl rfl) (g0 rfl) rfl rfl ?_
      exact k_wk (J3 false H) [9, 0, 2, 4, 5, 6] [] 0 [] 0 rfl rfl rfl

def sha_constants : Option (Arr UInt32 64) :=
some (⟨[(1116352408 : UInt32), (1899447441 : UInt32), (3049323471 : UInt32), (3921009573 : UInt32), (961987163 : UInt32), (1508970993 : UInt32), (2453635748 : UInt32), (2870763221 : UInt32), (3624381080 : UInt32), (310598401 : UInt32), (607225278 : UInt32), (1426881987 : UInt32), (1925078388 : UInt32), (2162078206 : UInt32), (2614888103 : UInt32), (3248222580 : UInt32), (3835390401 : UInt32), (4022224774 : UInt32), (264347078 : UInt32), (604807628 : UInt32), (770255983 : UInt32), (1249150122 : UInt32), (1555081692 : UInt32), (1996064986 : UInt32), (2554220882 : UInt32), (2821834349 : UInt32), (2952996808 : UInt32), (3210313671 : UInt32), (3336571891 : UInt32), (3584528711 : UInt32), (113926993 : UInt32), (338241895 : UInt32), (666307205 : UInt32), (773529912 : UInt32), (1294757372 : UInt32), (1396182291 : UInt32), (1695183700 : UInt32), (1986661051 : UInt32), (2177026350 : UInt32), (2456956037 : UInt32), (2730485921 : UInt32), (2820302411 : UInt32), (3259730800 : UInt32), (3345764771 : UInt32), (3516065817 : UInt32), (3600352804 : UInt32), (4094571909 : UInt32), (275423344 : UInt32), (430227734 : UInt32), (506948616 : UInt32), (659060556 : UInt32), (883997877 : UInt32), (958139571 : UInt32), (1322822218 : UInt32), (1537002063 : UInt32), (1747873779 : UInt32), (1955562222 : UInt32), (2024104815 : UInt32), (2227730452 : UInt32), (2361852424 : UInt32), (2428436474 : UInt32), (2756734187 : UInt32), (3204031479 : UInt32), (3329325298 : UInt32)], rfl⟩ : Arr UInt32 64)

theorem c_sha_constants (r : (Arr UInt32 64)) (H : sha_constants  = some r) : Fn Tryd.prog 102 [] [] [] (fun v D' G' => v = (.agg (r.l.flatMap E32).toArray) ∧ D' = [] ∧ G' = []) := by
  unfold sha_constants at H
  refine fn_of Tryd.func102 rfl Tryd.ntmps102 rfl ?_
  intro w0 D0 G0
  dsimp only [app, initEnv, Nat.zero_add, Nat.reduceAdd]
  refine s_seq ?_
  refine s_reg [0] rfl ?_
  refine oc (k_alloc rfl rfl Tryd.zeroValue151 (cs := (Arr.zero 0 64 : Arr UInt32 64).l.flatMap E32) rfl (g0 rfl) rfl rfl ?_)
  intro b1
  refine o_nil ?_
  refine q_then ?_
  refine s_seq ?_
  refine s_reg [0, 1] rfl ?_
  refine o_pu rfl (ev_build_arr (f := E32) (a := (⟨[(1116352408 : UInt32), (1899447441 : UInt32), (3049323471 : UInt32), (3921009573 : UInt32), (961987163 : UInt32), (1508970993 : UInt32), (2453635748 : UInt32), (2870763221 : UInt32), (3624381080 : UInt32), (310598401 : UInt32), (607225278 : UInt32), (1426881987 : UInt32), (1925078388 : UInt32), (2162078206 : UInt32), (2614888103 : UInt32), (3248222580 : UInt32), (3835390401 : UInt32), (4022224774 : UInt32), (264347078 : UInt32), (604807628 : UInt32), (770255983 : UInt32), (1249150122 : UInt32), (1555081692 : UInt32), (1996064986 : UInt32), (2554220882 : UInt32), (2821834349 : UInt32), (2952996808 : UInt32), (3210313671 : UInt32), (3336571891 : UInt32), (3584528711 : UInt32), (113926993 : UInt32), (338241895 : UInt32), (666307205 : UInt32), (773529912 : UInt32), (1294757372 : UInt32), (1396182291 : UInt32), (1695183700 : UInt32), (1986661051 : UInt32), (2177026350 : UInt32), (2456956037 : UInt32), (2730485921 : UInt32), (2820302411 : UInt32), (3259730800 : UInt32), (3345764771 : UInt32), (3516065817 : UInt32), (3600352804 : UInt32), (4094571909 : UInt32), (275423344 : UInt32), (430227734 : UInt32), (506948616 : UInt32), (659060556 : UInt32), (883997877 : UInt32), (958139571 : UInt32), (1322822218 : UInt32), (1537002063 : UInt32), (1747873779 : UInt32), (1955562222 : UInt32), (2024104815 : UInt32), (2227730452 : UInt32), (2361852424 : UInt32), (2428436474 : UInt32), (2756734187 : UInt32), (3204031479 : UInt32), (3329325298 : UInt32)], rfl⟩ : Arr UInt32 64)) rfl rfl Tryd.zeroValue151 Tryd.runUnderlying151 Tryd.sizeOf124 (fill_all rfl rfl rfl rfl rfl)) (g0 rfl) rfl rfl ?_
  refine oc (k_st (j := 0) rfl rfl rfl rfl (vs := (⟨[(1116352408 : UInt32), (1899447441 : UInt32), (3049323471 : UInt32), (3921009573 : UInt32), (961987163 : UInt32), (1508970993 : UInt32), (2453635748 : UInt32), (2870763221 : UInt32), (3624381080 : UInt32), (310598401 : UInt32), (607225278 : UInt32), (1426881987 : UInt32), (1925078388 : UInt32), (2162078206 : UInt32), (2614888103 : UInt32), (3248222580 : UInt32), (3835390401 : UInt32), (4022224774 : UInt32), (264347078 : UInt32), (604807628 : UInt32), (770255983 : UInt32), (1249150122 : UInt32), (1555081692 : UInt32), (1996064986 : UInt32), (2554220882 : UInt32), (2821834349 : UInt32), (2952996808 : UInt32), (3210313671 : UInt32), (3336571891 : UInt32), (3584528711 : UInt32), (113926993 : UInt32), (338241895 : UInt32), (666307205 : UInt32), (773529912 : UInt32), (1294757372 : UInt32), (1396182291 : UInt32), (1695183700 : UInt32), (1986661051 : UInt32), (2177026350 : UInt32), (2456956037 : UInt32), (2730485921 : UInt32), (2820302411 : UInt32), (3259730800 : UInt32), (3345764771 : UInt32), (3516065817 : UInt32), (3600352804 : UInt32), (4094571909 : UInt32), (275423344 : UInt32), (430227734 : UInt32), (506948616 : UInt32), (659060556 : UInt32), (883997877 : UInt32), (958139571 : UInt32), (1322822218 : UInt32), (1537002063 : UInt32), (1747873779 : UInt32), (1955562222 : UInt32), (2024104815 : UInt32), (2227730452 : UInt32), (2361852424 : UInt32), (2428436474 : UInt32), (2756734187 : UInt32), (3204031479 : UInt32), (3329325298 : UInt32)], rfl⟩ : Arr UInt32 64).l.flatMap E32) rfl (sz (arr_len E32_len _ rfl) Tryd.sizeOf151) (arr_sc E32_one _) 0 rfl (spl_all ((arr_len E32_len _ rfl).trans (arr_len E32_len _ rfl).symm)) rfl (g0 rfl) rfl ?_)
  refine o_nil ?_
  refine q_then ?_
  refine s_ret ?_
  cases H
  exact q_end (rs_1 Tryd.results102 (rv_cell (j := 0) rfl (hG 0 rfl) Tryd.isAgg151 (sz (arr_len E32_len _ rfl) Tryd.sizeOf151) (sub_all _) rfl)) ⟨rfl, rfl, rfl⟩ [] rfl 0 rfl [] rfl 1 rfl

def meta_chunks (a0_i : Img) : Option Int :=
some (wrap64 ((wrap64 ((wrap64 (a0_i.Size + 320)) - 1)).tdiv 320))

theorem c_meta_chunks (a0_i : Img) (r : Int) (H : meta_chunks a0_i = some r) : Fn Tryd.prog 105 [(.agg (Img.cells a0_i).toArray)] [] [] (fun v D' G' => v = (vi r) ∧ D' = [] ∧ G' = []) := by
  unfold meta_chunks at H
  refine fn_of Tryd.func105 rfl Tryd.ntmps105 rfl ?_
  intro w0 D0 G0
  dsimp only [app, initEnv, Nat.zero_add, Nat.reduceAdd]
  refine s_seq ?_
  refine s_reg [0, 1] rfl ?_
  refine oc (k_box rfl rfl rfl (cs := Img.cells a0_i) rfl (g0 rfl) rfl rfl ?_)
  intro b1
  refine o_pu rfl (ev_assign rfl rfl) (g0 rfl) rfl rfl ?_
  refine o_nil ?_
  refine q_then ?_
  refine s_seq ?_
  refine s_reg [0, 1, 2, 3, 4, 5] rfl ?_
  refine o_pu rfl (ev_fieldAddr rfl rfl Tryd.runUnderlying71 rfl Tryd.sizeOf3 rfl rfl) (g0 rfl) rfl rfl ?_
  refine o_ld (hG 0 rfl) rfl (ev_ld1 (j := 1) rfl rfl Tryd.isAgg3 (Img.sub_Size _) rfl) (g0 rfl) rfl rfl ?_
  refine o_pu rfl (ev_bin rfl rfl rfl rfl (add_i _ 320)) (g0 rfl) rfl rfl ?_
  refine o_pu rfl (ev_bin rfl rfl rfl rfl (sub_i _ 1)) (g0 rfl) rfl rfl ?_
  refine o_pu rfl (ev_bin rfl rfl rfl rfl (quo_i _ 320 rfl)) (g0 rfl) rfl rfl ?_
  refine o_pu rfl (ev_assign rfl rfl) (g0 rfl) rfl rfl ?_
  refine o_nil ?_
  refine q_then ?_
  refine s_ret ?_
  cases H
  exact q_end (rs_1 Tryd.results105 (rv_tmp rfl)) ⟨rfl, rfl, rfl⟩ [] rfl 0 rfl [] rfl 1 rfl

def update_alone (a0_m : MetaS) : Option MetaS :=
(meta_Other a0_m).bind fun r3 =>
chk (0 ≤ r3 ∧ r3 < 2) <|
some ({ (a0_m : MetaS) with Have := (Arr.set a0_m.Have r3 Img.zero) })

theorem c_update_alone (a0_m : MetaS) (r : MetaS) (H : update_alone a0_m = some r) : Fn Tryd.prog 106 [(.agg (MetaS.cells a0_m).toArray)] [] [] (fun v D' G' => v = (.agg (MetaS.cells r).toArray) ∧ D' = [] ∧ G' = []) := by
  unfold update_alone at H
  refine fn_of Tryd.func106 rfl Tryd.ntmps106 rfl ?_
  intro w0 D0 G0
  dsimp only [app, initEnv, Nat.zero_add, Nat.reduceAdd]
  refine s_seq ?_
  refine s_reg [0, 1] rfl ?_
  refine oc (k_box rfl rfl rfl (cs := MetaS.cells a0_m) rfl (g0 rfl) rfl rfl ?_)
  intro b1
  refine oc (k_alloc rfl rfl Tryd.zeroValue74 (cs := MetaS.cells MetaS.zero) rfl (g0 rfl) rfl rfl ?_)
  intro b2
  refine o_nil ?_
  refine q_then ?_
  refine s_seq ?_
  refine s_reg [0, 1, 2, 3, 4, 5] rfl ?_
  refine o_ld (hG 1 rfl) rfl (ev_ldN (j := 0) rfl rfl Tryd.isAgg74 (sz (MetaS.len _) Tryd.sizeOf74) (sub_all _) rfl) (g0 rfl) rfl rfl ?_
  obtain ⟨r3, Hc4, H⟩ := bind_some' H
  refine oc (k_call (c_meta_Other a0_m r3 Hc4) Tryd.call36 rfl rfl rfl [] [] rfl rfl (g0 rfl) rfl rfl ?_)
  rintro _ _ _ ⟨rfl, rfl, rfl⟩
  dsimp only [app]
  refine o_pu rfl (ev_build (cs := Img.cells Img.zero) rfl rfl Tryd.zeroValue71 Tryd.runUnderlying71 pl71 (show Instr.fill _ (Img.cells Img.zero : List Value).toArray _ = some _ from fill_nil)) (g0 rfl) rfl rfl ?_
  refine o_pu rfl (ev_fieldAddr rfl rfl Tryd.runUnderlying74 rfl Tryd.sizeOf72 rfl rfl) (g0 rfl) rfl rfl ?_
  obtain ⟨hk5, H⟩ := chk_some H
  refine o_pu rfl (ev_idx_array rfl rfl rfl Tryd.runUnderlying72 Tryd.sizeOf71 hk5 rfl) (g0 rfl) rfl rfl ?_
  refine oc (k_st rfl rfl rfl rfl (vs := Img.cells Img.zero) rfl (sz (Img.len _) Tryd.sizeOf71) (Img.sc _) 1 rfl (spl_in (MetaS.sub_Have _) (spl_arr Img.len _ (k := r3) _ hk5 rfl) (MetaS.set_Have _ (Arr.set a0_m.Have r3 Img.zero)) rfl) (by first | omega | (dsimp only; omega)) (g0 rfl) rfl ?_)
  refine o_nil ?_
  refine q_then ?_
  refine s_seq ?_
  refine s_reg [0, 1] rfl ?_
  refine o_ld (hG 1 rfl) rfl (ev_ldN (j := 0) rfl rfl Tryd.isAgg74 (sz (MetaS.len _) Tryd.sizeOf74) (sub_all _) rfl) (g0 rfl) rfl rfl ?_
  refine oc (k_st (j := 0) rfl rfl rfl rfl (vs := MetaS.cells ({ (a0_m : MetaS) with Have := (Arr.set a0_m.Have r3 Img.zero) })) rfl (sz (MetaS.len _) Tryd.sizeOf74) (MetaS.sc _) 0 rfl (spl_all ((MetaS.len _).trans (MetaS.len _).symm)) rfl (g0 rfl) rfl ?_)
  refine o_nil ?_
  refine q_then ?_
  refine s_ret ?_
  cases H
  exact q_end (rs_1 Tryd.results106 (rv_cell (j := 0) rfl (hG 0 rfl) Tryd.isAgg74 (sz (MetaS.len _) Tryd.sizeOf74) (sub_all _) rfl)) ⟨rfl, rfl, rfl⟩ [] rfl 0 rfl [] rfl 2 rfl

def update_one_l0 (a1_l : List Int) (J5 : Unit → Option ChangeS) : Nat → Int → Option ChangeS
  | 0, _ => none
  | k8 + 1, s8 =>
    bif (decide (s8 < (a1_l.length : Int))) then (
    chk (0 ≤ s8 ∧ s8 < a1_l.length) <|
    bif ((at' 0 a1_l s8) != 0) then (
    (update_fails (at' 0 a1_l s8)).bind fun r14 =>
    some r14) else (
    update_one_l0 a1_l J5 k8 (wrap64 (s8 + 1)))) else (
    J5 ())

def update_one (a0_m : MetaS) (a1_l : List Int) : Option ChangeS :=
jn (fun (x6 : Unit) =>
some (⟨a0_m, RespS.zero⟩ : ChangeS)) fun J5 =>
update_one_l0 a1_l J5 Fuel 0

theorem c_update_one (a0_m : MetaS) (a1_l : List Int) (A1 : Option Addr) (c2 : Nat) (r : ChangeS) (H : update_one a0_m a1_l = some r) : Fn Tryd.prog 107 [(.agg (MetaS.cells a0_m).toArray), (.slice A1 a1_l.length c2)] [Sl Ei A1 c2 a1_l] [] (fun v D' G' => v = (.agg (ChangeS.cells r).toArray) ∧ D' = [] ∧ G' = []) := by
  unfold update_one at H
  refine fn_of Tryd.func107 rfl Tryd.ntmps107 rfl ?_
  intro w0 D0 G0
  dsimp only [app, initEnv, Nat.zero_add, Nat.reduceAdd]
  refine s_seq ?_
  refine s_reg [0, 1] rfl ?_
  refine oc (k_box rfl rfl rfl (cs := MetaS.cells a0_m) rfl (g0 rfl) rfl rfl ?_)
  intro b3
  refine oc (k_alloc rfl rfl Tryd.zeroValue109 (cs := ChangeS.cells ChangeS.zero) rfl (g0 rfl) rfl rfl ?_)
  intro b4
  refine o_nil ?_
  refine q_then ?_
  refine s_seq ?_
  refine s_seq ?_
  refine s_reg [0, 1, 2] rfl ?_
  refine o_pu rfl (ev_move rfl rfl) (g0 rfl) rfl rfl ?_
  refine o_pu rfl (ev_len_slice rfl rfl Tryd.runUnderlying176) (g0 rfl) rfl rfl ?_
  refine o_pu rfl (ev_move rfl rfl) (g0 rfl) rfl rfl ?_
  refine o_nil ?_
  refine q_then ?_
  refine q_join (fun (x6 : Unit) (y7 : Unit) => ⟨Sl Ei A1 c2 a1_l :: D0, At b4 0 (ChangeS.cells ChangeS.zero) :: At b3 0 (MetaS.cells a0_m) :: G0, [(2, (.pointer (some ⟨b3, 0, none⟩))), (4, (.pointer (some ⟨b4, 0, none⟩)))]⟩) H ?_ ?_
  · intro x6 y7 H
    dsimp only
    refine q_then ?_
    refine s_seq ?_
    refine s_reg [0, 1, 2] rfl ?_
    refine o_ld (hG 1 rfl) rfl (ev_ldN (j := 0) rfl rfl Tryd.isAgg74 (sz (MetaS.len _) Tryd.sizeOf74) (sub_all _) rfl) (g0 rfl) rfl rfl ?_
    refine o_pu rfl (ev_build (cs := ChangeS.cells (⟨a0_m, RespS.zero⟩ : ChangeS)) rfl rfl Tryd.zeroValue109 Tryd.runUnderlying109 pl109 (show Instr.fill _ (ChangeS.cells ChangeS.zero : List Value).toArray _ = some _ from (fill_cons rfl (s := MetaS.cells a0_m) rfl (MetaS.len _) (ChangeS.set_m _ a0_m) fill_nil))) (g0 rfl) rfl rfl ?_
    refine oc (k_st (j := 0) rfl rfl rfl rfl (vs := ChangeS.cells (⟨a0_m, RespS.zero⟩ : ChangeS)) rfl (sz (ChangeS.len _) Tryd.sizeOf109) (ChangeS.sc _) 0 rfl (spl_all ((ChangeS.len _).trans (ChangeS.len _).symm)) rfl (g0 rfl) rfl ?_)
    refine o_nil ?_
    refine q_then ?_
    refine s_ret ?_
    cases H
    exact q_end (rs_1 Tryd.results107 (rv_cell (j := 0) rfl (hG 0 rfl) Tryd.isAgg109 (sz (ChangeS.len _) Tryd.sizeOf109) (sub_all _) rfl)) ⟨rfl, rfl, rfl⟩ [] rfl 1 rfl [] rfl 2 rfl
  · intro J5 H
    refine s_block ?_
    refine s_loop (k_wk (loop_ind (fun (s8 : Int) (y8 : Unit) => ⟨Sl Ei A1 c2 a1_l :: D0, At b4 0 (ChangeS.cells ChangeS.zero) :: At b3 0 (MetaS.cells a0_m) :: G0, [(2, (.pointer (some ⟨b3, 0, none⟩))), (4, (.pointer (some ⟨b4, 0, none⟩))), (7, (.slice A1 a1_l.length c2)), (8, (vi (a1_l.length : Int))), (9, (vi s8))]⟩) (update_one_l0 a1_l _) _ (fun _ => rfl) ?_ Fuel 0 () H) [2, 4, 7, 8, 9] [0] 1 [0, 0] 0 rfl rfl rfl)
    intro k8 s8 y8 ih H
    dsimp only
    rw [update_one_l0] at H
    refine s_seq ?_
    refine s_reg [0] rfl ?_
    refine o_pu rfl (ev_bin rfl rfl rfl rfl (lss_i _ _)) (g0 rfl) rfl rfl ?_
    refine o_nil ?_
    refine q_then ?_
    refine s_seq ?_
    refine s_cond rfl ?_ ?_
    · intro hb9
      have H := cnd_t H hb9
      refine s_skip ?_
      refine q_then ?_
      refine s_seq ?_
      refine s_block ?_
      refine s_seq ?_
      refine s_reg [0, 1, 2] rfl ?_
      obtain ⟨hk12, H⟩ := chk_some H
      refine oc (k_idx 0 0 rfl rfl rfl rfl rfl Ei_len rfl Tryd.runUnderlying176 Tryd.sizeOf24 hk12 (g0 rfl) rfl rfl ?_)
      intro b10 q11
      refine o_ld (hD 0 rfl) rfl (ev_ld1 (j := 0) rfl rfl Tryd.isAgg24 (sub_nth (j := 0) rfl) rfl) (g0 rfl) rfl rfl ?_
      refine o_pu rfl (ev_assign rfl rfl) (g0 rfl) rfl rfl ?_
      refine o_nil ?_
      refine q_then ?_
      refine s_seq ?_
      refine s_reg [0, 1] rfl ?_
      refine o_pu rfl (ev_move rfl rfl) (g0 rfl) rfl rfl ?_
      refine o_pu rfl (ev_bin rfl rfl rfl rfl (neq_i _ 0)) (g0 rfl) rfl rfl ?_
      refine o_nil ?_
      refine q_then ?_
      refine s_cond rfl ?_ ?_
      · intro hb13
        have H := cnd_t H hb13
        refine s_seq ?_
        refine s_reg [0, 1, 2] rfl ?_
        refine o_pu rfl (ev_move rfl rfl) (g0 rfl) rfl rfl ?_
        obtain ⟨r14, Hc15, H⟩ := bind_some' H
        refine oc (k_call (c_update_fails (at' 0 a1_l s8) r14 Hc15) Tryd.call84 rfl rfl rfl [] [] rfl rfl (g0 rfl) rfl rfl ?_)
        rintro _ _ _ ⟨rfl, rfl, rfl⟩
        dsimp only [app]
        refine oc (k_st (j := 0) rfl rfl rfl rfl (vs := ChangeS.cells r14) rfl (sz (ChangeS.len _) Tryd.sizeOf109) (ChangeS.sc _) 0 rfl (spl_all ((ChangeS.len _).trans (ChangeS.len _).symm)) rfl (g0 rfl) rfl ?_)
        refine o_nil ?_
        refine q_then ?_
        refine s_ret ?_
        refine q_block_r ?_
        refine q_then_r ?_
        refine q_then_r ?_
        refine q_block_r ?_
        refine q_then_r ?_
        cases H
        exact q_end (rs_1 Tryd.results107 (rv_cell (j := 0) rfl (hG 0 rfl) Tryd.isAgg109 (sz (ChangeS.len _) Tryd.sizeOf109) (sub_all _) rfl)) ⟨rfl, rfl, rfl⟩ [] rfl 2 rfl [] rfl 2 rfl
      · intro hb13
        have H := cnd_f H hb13
        refine s_skip ?_
        refine q_block ?_
        refine q_then ?_
        refine s_reg [0, 1] rfl ?_
        refine o_pu rfl (ev_bin rfl rfl rfl rfl (add_i _ 1)) (g0 rfl) rfl rfl ?_
        refine o_pu rfl (ev_move rfl rfl) (g0 rfl) rfl rfl ?_
        refine o_nil ?_
        refine q_loop ?_
        exact k_wk (ih (wrap64 (s8 + 1)) () H) [2, 4, 7, 8, 9] [1] 2 [0, 0] 0 rfl rfl rfl
    · intro hb9
      have H := cnd_f H hb9
      refine s_exit ?_
      refine q_then_x ?_
      refine q_then_x ?_
      refine q_block_x ?_
      exact k_wk (J5 () () H) [2, 4] [0] 1 [0, 0] 0 rfl rfl rfl

def update_when (a0_is : Bool) (a1_e : Int) : Option Int :=
bif a0_is then (
some a1_e) else (
some 0)

theorem c_update_when (a0_is : Bool) (a1_e : Int) (r : Int) (H : update_when a0_is a1_e = some r) : Fn Tryd.prog 108 [(vb a0_is), (vi a1_e)] [] [] (fun v D' G' => v = (vi r) ∧ D' = [] ∧ G' = []) := by
  unfold update_when at H
  refine fn_of Tryd.func108 rfl Tryd.ntmps108 rfl ?_
  intro w0 D0 G0
  dsimp only [app, initEnv, Nat.zero_add, Nat.reduceAdd]
  refine s_seq ?_
  refine s_reg [0] rfl ?_
  refine o_pu rfl (ev_assign rfl rfl) (g0 rfl) rfl rfl ?_
  refine o_nil ?_
  refine q_then ?_
  refine s_seq ?_
  refine s_seq ?_
  refine s_reg [0] rfl ?_
  refine o_pu rfl (ev_move rfl rfl) (g0 rfl) rfl rfl ?_
  refine o_nil ?_
  refine q_then ?_
  refine s_cond rfl ?_ ?_
  · intro hb1
    have H := cnd_t H hb1
    refine s_seq ?_
    refine s_reg [0, 1] rfl ?_
    refine o_pu rfl (ev_move rfl rfl) (g0 rfl) rfl rfl ?_
    refine o_pu rfl (ev_assign rfl rfl) (g0 rfl) rfl rfl ?_
    refine o_nil ?_
    refine q_then ?_
    refine s_ret ?_
    refine q_then_r ?_
    cases H
    exact q_end (rs_1 Tryd.results108 (rv_tmp rfl)) ⟨rfl, rfl, rfl⟩ [] rfl 0 rfl [] rfl 0 rfl
  · intro hb1
    have H := cnd_f H hb1
    refine s_skip ?_
    refine q_then ?_
    refine s_seq ?_
    refine s_reg [0] rfl ?_
    refine o_pu rfl (ev_assign rfl rfl) (g0 rfl) rfl rfl ?_
    refine o_nil ?_
    refine q_then ?_
    refine s_ret ?_
    cases H
    exact q_end (rs_1 Tryd.results108 (rv_tmp rfl)) ⟨rfl, rfl, rfl⟩ [] rfl 0 rfl [] rfl 0 rfl

def version_May (a0_m : MetaS) (a1_v : Int) : Option Bool :=
bnd (decide (a1_v ≥ 1)) fun b2 =>
jn (fun x5 =>
bnd x5 fun b6 =>
jn (fun x9 =>
some x9) fun J8 =>
bif b6 then (
J8 (decide (a1_v ≥ a0_m.Min))) else
J8 false) fun J4 =>
bif b2 then (
J4 (decide (a1_v ≤ 1073741824))) else
J4 false

theorem c_version_May (a0_m : MetaS) (a1_v : Int) (r : Bool) (H : version_May a0_m a1_v = some r) : Fn Tryd.prog 109 [(.agg (MetaS.cells a0_m).toArray), (vi a1_v)] [] [] (fun v D' G' => v = (vb r) ∧ D' = [] ∧ G' = []) := by
  unfold version_May at H
  refine fn_of Tryd.func109 rfl Tryd.ntmps109 rfl ?_
  intro w0 D0 G0
  dsimp only [app, initEnv, Nat.zero_add, Nat.reduceAdd]
  refine s_seq ?_
  refine s_reg [0, 1] rfl ?_
  refine oc (k_box rfl rfl rfl (cs := MetaS.cells a0_m) rfl (g0 rfl) rfl rfl ?_)
  intro b1
  refine o_pu rfl (ev_assign rfl rfl) (g0 rfl) rfl rfl ?_
  refine o_nil ?_
  refine q_then ?_
  refine s_seq ?_
  refine s_reg [0, 1, 2, 3, 4, 5, 6, 7, 8, 9, 10, 11, 12] rfl ?_
  refine o_pu rfl (ev_move rfl rfl) (g0 rfl) rfl rfl ?_
  refine o_pu rfl (ev_bin rfl rfl rfl rfl (geq_i _ 1)) (g0 rfl) rfl rfl ?_
  refine o_pu rfl (ev_move rfl rfl) (g0 rfl) rfl rfl ?_
  refine k_name 7 rfl ?_
  intro b2 hb3
  have H := bnd_eq H hb3
  refine o_jb 10 [6, 7, 8, 9, 10, 11, 12] [0, 1, 2, 4, 5, 6, 7] H rfl ?_ ?_
  · intro x5 H
    refine o_pu rfl (ev_move rfl rfl) (g0 rfl) rfl rfl ?_
    refine k_name 11 rfl ?_
    intro b6 hb7
    have H := bnd_eq H hb7
    refine o_jb 16 [12] [0, 1, 2, 4, 5, 6, 7, 10, 11] H rfl ?_ ?_
    · intro x9 H
      refine o_pu rfl (ev_assign rfl rfl) (g0 rfl) rfl rfl ?_
      refine o_nil ?_
      refine q_then ?_
      refine s_ret ?_
      cases H
      exact q_end (rs_1 Tryd.results109 (rv_tmp rfl)) ⟨rfl, rfl, rfl⟩ [] rfl 0 rfl [] rfl 1 rfl
    · intro J8 H
      cases b6 with
      | true =>
        rw [cond_true] at H
        refine o_pu rfl (ev_move rfl rfl) (g1 rfl rfl rfl rfl) rfl rfl ?_
        refine o_pu rfl (ev_fieldAddr rfl rfl Tryd.runUnderlying74 rfl Tryd.sizeOf3 rfl rfl) (g1 rfl rfl rfl rfl) rfl rfl ?_
        refine o_ld (hG 0 rfl) rfl (ev_ld1 (j := 69) rfl rfl Tryd.isAgg3 (MetaS.sub_Min _) rfl) (g1 rfl rfl rfl rfl) rfl rfl ?_
        refine o_pu rfl (ev_bin rfl rfl rfl rfl (geq_i _ _)) (g1 rfl rfl rfl rfl) rfl rfl ?_
        refine o_pu rfl (ev_pick_t rfl rfl rfl) (g0 rfl) rfl rfl ?_
        exact k_wk (J8 (decide (a1_v ≥ a0_m.Min)) H) [16, 0, 1, 2, 4, 5, 6, 7, 10, 11] [] 0 [0] 0 rfl rfl rfl
      | false =>
        rw [cond_false] at H
        refine o_gnot rfl rfl rfl rfl rfl rfl rfl rfl ?_
        refine o_gnot rfl rfl rfl rfl rfl rfl rfl rfl ?_
        refine o_gnot rfl rfl rfl rfl rfl rfl rfl rfl ?_
        refine o_gnot rfl rfl rfl rfl rfl rfl rfl rfl ?_
        refine o_pu rfl (ev_pick_f rfl rfl rfl) (g0 rfl) rfl rfl ?_
        exact k_wk (J8 false H) [16, 0, 1, 2, 4, 5, 6, 7, 10, 11] [] 0 [0] 0 rfl rfl rfl
  · intro J4 H
    cases b2 with
    | true =>
      rw [cond_true] at H
      refine o_pu rfl (ev_move rfl rfl) (g1 rfl rfl rfl rfl) rfl rfl ?_
      refine o_pu rfl (ev_bin rfl rfl rfl rfl (leq_i _ 1073741824)) (g1 rfl rfl rfl rfl) rfl rfl ?_
      refine o_pu rfl (ev_pick_t rfl rfl rfl) (g0 rfl) rfl rfl ?_
      exact k_wk (J4 (decide (a1_v ≤ 1073741824)) H) [10, 0, 1, 2, 4, 5, 6, 7] [] 0 [0] 0 rfl rfl rfl
    | false =>
      rw [cond_false] at H
      refine o_gnot rfl rfl rfl rfl rfl rfl rfl rfl ?_
      refine o_gnot rfl rfl rfl rfl rfl rfl rfl rfl ?_
      refine o_pu rfl (ev_pick_f rfl rfl rfl) (g0 rfl) rfl rfl ?_
      exact k_wk (J4 false H) [10, 0, 1, 2, 4, 5, 6, 7] [] 0 [0] 0 rfl rfl rfl

def update_Chunks (a0_size : Int) : Option Int :=
bif (decide (a0_size < 1)) then (
some 0) else (
some (wrap64 ((wrap64 ((wrap64 (a0_size - 1)).tdiv 320)) + 1)))

theorem c_update_Chunks (a0_size : Int) (r : Int) (H : update_Chunks a0_size = some r) : Fn Tryd.prog 110 [(vi a0_size)] [] [] (fun v D' G' => v = (vi r) ∧ D' = [] ∧ G' = []) := by
  unfold update_Chunks at H
  refine fn_of Tryd.func110 rfl Tryd.ntmps110 rfl ?_
  intro w0 D0 G0
  dsimp only [app, initEnv, Nat.zero_add, Nat.reduceAdd]
  refine s_seq ?_
  refine s_reg [0] rfl ?_
  refine o_pu rfl (ev_assign rfl rfl) (g0 rfl) rfl rfl ?_
  refine o_nil ?_
  refine q_then ?_
  refine s_seq ?_
  refine s_seq ?_
  refine s_reg [0, 1] rfl ?_
  refine o_pu rfl (ev_move rfl rfl) (g0 rfl) rfl rfl ?_
  refine o_pu rfl (ev_bin rfl rfl rfl rfl (lss_i _ 1)) (g0 rfl) rfl rfl ?_
  refine o_nil ?_
  refine q_then ?_
  refine s_cond rfl ?_ ?_
  · intro hb1
    have H := cnd_t H hb1
    refine s_seq ?_
    refine s_reg [0] rfl ?_
    refine o_pu rfl (ev_assign rfl rfl) (g0 rfl) rfl rfl ?_
    refine o_nil ?_
    refine q_then ?_
    refine s_ret ?_
    refine q_then_r ?_
    cases H
    exact q_end (rs_1 Tryd.results110 (rv_tmp rfl)) ⟨rfl, rfl, rfl⟩ [] rfl 0 rfl [] rfl 0 rfl
  · intro hb1
    have H := cnd_f H hb1
    refine s_skip ?_
    refine q_then ?_
    refine s_seq ?_
    refine s_reg [0, 1, 2, 3, 4] rfl ?_
    refine o_pu rfl (ev_move rfl rfl) (g0 rfl) rfl rfl ?_
    refine o_pu rfl (ev_bin rfl rfl rfl rfl (sub_i _ 1)) (g0 rfl) rfl rfl ?_
    refine o_pu rfl (ev_bin rfl rfl rfl rfl (quo_i _ 320 rfl)) (g0 rfl) rfl rfl ?_
    refine o_pu rfl (ev_bin rfl rfl rfl rfl (add_i _ 1)) (g0 rfl) rfl rfl ?_
    refine o_pu rfl (ev_assign rfl rfl) (g0 rfl) rfl rfl ?_
    refine o_nil ?_
    refine q_then ?_
    refine s_ret ?_
    cases H
    exact q_end (rs_1 Tryd.results110 (rv_tmp rfl)) ⟨rfl, rfl, rfl⟩ [] rfl 0 rfl [] rfl 0 rfl

def update_Len (a0_size : Int) (a1_n : Int) : Option Int :=
bnd (decide (a1_n < 0)) fun b1 =>
jn (fun x4 =>
bif x4 then (
some 0) else (
some (if (wrap64 (a0_size - (wrap64 (a1_n * 320)))) < 320 then (wrap64 (a0_size - (wrap64 (a1_n * 320)))) else 320))) fun J3 =>
bif b1 then (
J3 true) else
(update_Chunks a0_size).bind fun r6 =>
J3 (decide (a1_n ≥ r6))

theorem c_update_Len (a0_size : Int) (a1_n : Int) (r : Int) (H : update_Len a0_size a1_n = some r) : Fn Tryd.prog 111 [(vi a0_size), (vi a1_n)] [] [] (fun v D' G' => v = (vi r) ∧ D' = [] ∧ G' = []) := by
  unfold update_Len at H
  refine fn_of Tryd.func111 rfl Tryd.ntmps111 rfl ?_
  intro w0 D0 G0
  dsimp only [app, initEnv, Nat.zero_add, Nat.reduceAdd]
  refine s_seq ?_
  refine s_reg [0] rfl ?_
  refine o_pu rfl (ev_assign rfl rfl) (g0 rfl) rfl rfl ?_
  refine o_nil ?_
  refine q_then ?_
  refine s_seq ?_
  refine s_seq ?_
  refine s_reg [0, 1, 2, 3, 4, 5, 6, 7] rfl ?_
  refine o_pu rfl (ev_move rfl rfl) (g0 rfl) rfl rfl ?_
  refine o_pu rfl (ev_bin rfl rfl rfl rfl (lss_i _ 0)) (g0 rfl) rfl rfl ?_
  refine o_pu rfl (ev_move rfl rfl) (g0 rfl) rfl rfl ?_
  refine k_name 7 rfl ?_
  intro b1 hb2
  have H := bnd_eq H hb2
  refine o_jb 12 [] [0, 1, 4, 5, 6, 7] H rfl ?_ ?_
  · intro x4 H
    refine o_nil ?_
    refine q_then ?_
    refine s_cond rfl ?_ ?_
    · intro hb5
      have H := cnd_t H hb5
      refine s_seq ?_
      refine s_reg [0] rfl ?_
      refine o_pu rfl (ev_assign rfl rfl) (g0 rfl) rfl rfl ?_
      refine o_nil ?_
      refine q_then ?_
      refine s_ret ?_
      refine q_then_r ?_
      cases H
      exact q_end (rs_1 Tryd.results111 (rv_tmp rfl)) ⟨rfl, rfl, rfl⟩ [] rfl 0 rfl [] rfl 0 rfl
    · intro hb5
      have H := cnd_f H hb5
      refine s_skip ?_
      refine q_then ?_
      refine s_seq ?_
      refine s_reg [0, 1, 2, 3, 4, 5] rfl ?_
      refine o_pu rfl (ev_move rfl rfl) (g0 rfl) rfl rfl ?_
      refine o_pu rfl (ev_move rfl rfl) (g0 rfl) rfl rfl ?_
      refine o_pu rfl (ev_bin rfl rfl rfl rfl (mul_i _ 320)) (g0 rfl) rfl rfl ?_
      refine o_pu rfl (ev_bin rfl rfl rfl rfl (sub_i _ _)) (g0 rfl) rfl rfl ?_
      refine o_pu rfl (ev_min rfl rfl rfl) (g0 rfl) rfl rfl ?_
      refine o_pu rfl (ev_assign rfl rfl) (g0 rfl) rfl rfl ?_
      refine o_nil ?_
      refine q_then ?_
      refine s_ret ?_
      cases H
      exact q_end (rs_1 Tryd.results111 (rv_tmp rfl)) ⟨rfl, rfl, rfl⟩ [] rfl 0 rfl [] rfl 0 rfl
  · intro J3 H
    cases b1 with
    | true =>
      rw [cond_true] at H
      refine o_gnot rfl rfl rfl rfl rfl rfl rfl rfl ?_
      refine o_gnot rfl rfl rfl rfl rfl rfl rfl rfl ?_
      refine o_gnot rfl rfl rfl rfl rfl rfl rfl rfl ?_
      refine o_gnot rfl rfl rfl rfl rfl rfl rfl rfl ?_
      refine o_pu rfl (ev_pick_t rfl rfl rfl) (g0 rfl) rfl rfl ?_
      exact k_wk (J3 true H) [12, 0, 1, 4, 5, 6, 7] [] 0 [] 0 rfl rfl rfl
    | false =>
      rw [cond_false] at H
      refine o_pu rfl (ev_move rfl rfl) (g1 rfl rfl rfl rfl) rfl rfl ?_
      refine o_pu rfl (ev_move rfl rfl) (g1 rfl rfl rfl rfl) rfl rfl ?_
      obtain ⟨r6, Hc7, H⟩ := bind_some' H
      refine oc (k_call (c_update_Chunks a0_size r6 Hc7) Tryd.call110 rfl rfl rfl [] [] rfl rfl (g1 rfl rfl rfl rfl) rfl rfl ?_)
      rintro _ _ _ ⟨rfl, rfl, rfl⟩
      dsimp only [app]
      refine o_pu rfl (ev_bin rfl rfl rfl rfl (geq_i _ _)) (g1 rfl rfl rfl rfl) rfl rfl ?_
      refine o_pu rfl (ev_pick_f rfl rfl rfl) (g0 rfl) rfl rfl ?_
      exact k_wk (J3 (decide (a1_n ≥ r6)) H) [12, 0, 1, 4, 5, 6, 7] [] 0 [] 0 rfl rfl rfl

def update_idle (a0_m : MetaS) : Option MetaS :=
bnd ({ ({ ({ ({ (a0_m : MetaS) with Phase := 0 } : MetaS) with Coming := Img.zero } : MetaS) with Got := 0 } : MetaS) with Trials := 0 }) fun x3 =>
some x3

theorem c_update_idle (a0_m : MetaS) (r : MetaS) (H : update_idle a0_m = some r) : Fn Tryd.prog 112 [(.agg (MetaS.cells a0_m).toArray)] [] [] (fun v D' G' => v = (.agg (MetaS.cells r).toArray) ∧ D' = [] ∧ G' = []) := by
  unfold update_idle at H
  refine fn_of Tryd.func112 rfl Tryd.ntmps112 rfl ?_
  intro w0 D0 G0
  dsimp only [app, initEnv, Nat.zero_add, Nat.reduceAdd]
  refine s_seq ?_
  refine s_reg [0, 1] rfl ?_
  refine oc (k_box rfl rfl rfl (cs := MetaS.cells a0_m) rfl (g0 rfl) rfl rfl ?_)
  intro b1
  refine oc (k_alloc rfl rfl Tryd.zeroValue74 (cs := MetaS.cells MetaS.zero) rfl (g0 rfl) rfl rfl ?_)
  intro b2
  refine o_nil ?_
  refine q_then ?_
  refine s_seq ?_
  refine s_reg [0, 1, 2, 3, 4, 5, 6, 7, 8] rfl ?_
  refine o_pu rfl (ev_build (cs := Img.cells Img.zero) rfl rfl Tryd.zeroValue71 Tryd.runUnderlying71 pl71 (show Instr.fill _ (Img.cells Img.zero : List Value).toArray _ = some _ from fill_nil)) (g0 rfl) rfl rfl ?_
  refine o_pu rfl (ev_fieldAddr rfl rfl Tryd.runUnderlying74 rfl Tryd.sizeOf3 rfl rfl) (g0 rfl) rfl rfl ?_
  refine oc (k_st (j := 70) rfl rfl rfl rfl (vs := [vi 0]) rfl (sz rfl Tryd.sizeOf3) rfl 1 rfl (MetaS.set_Phase _ 0) rfl (g0 rfl) rfl ?_)
  refine o_pu rfl (ev_fieldAddr rfl rfl Tryd.runUnderlying74 rfl Tryd.sizeOf71 rfl rfl) (g0 rfl) rfl rfl ?_
  refine oc (k_st (j := 71) rfl rfl rfl rfl (vs := Img.cells Img.zero) rfl (sz (Img.len _) Tryd.sizeOf71) (Img.sc _) 1 rfl (MetaS.set_Coming _ Img.zero) rfl (g0 rfl) rfl ?_)
  refine o_pu rfl (ev_fieldAddr rfl rfl Tryd.runUnderlying74 rfl Tryd.sizeOf3 rfl rfl) (g0 rfl) rfl rfl ?_
  refine oc (k_st (j := 105) rfl rfl rfl rfl (vs := [vi 0]) rfl (sz rfl Tryd.sizeOf3) rfl 1 rfl (MetaS.set_Got _ 0) rfl (g0 rfl) rfl ?_)
  refine o_pu rfl (ev_fieldAddr rfl rfl Tryd.runUnderlying74 rfl Tryd.sizeOf3 rfl rfl) (g0 rfl) rfl rfl ?_
  refine oc (k_st (j := 106) rfl rfl rfl rfl (vs := [vi 0]) rfl (sz rfl Tryd.sizeOf3) rfl 1 rfl (MetaS.set_Trials _ 0) rfl (g0 rfl) rfl ?_)
  obtain ⟨x3, hx4⟩ : ∃ x, x = ({ ({ ({ ({ (a0_m : MetaS) with Phase := 0 } : MetaS) with Coming := Img.zero } : MetaS) with Got := 0 } : MetaS) with Trials := 0 }) := ⟨_, rfl⟩
  have H := bnd_eq H hx4
  refine k_tok 1 (A' := At b1 0 (MetaS.cells x3)) rfl (by rw [hx4]) ?_
  refine o_nil ?_
  refine q_then ?_
  refine s_seq ?_
  refine s_reg [0, 1] rfl ?_
  refine o_ld (hG 1 rfl) rfl (ev_ldN (j := 0) rfl rfl Tryd.isAgg74 (sz (MetaS.len _) Tryd.sizeOf74) (sub_all _) rfl) (g0 rfl) rfl rfl ?_
  refine oc (k_st (j := 0) rfl rfl rfl rfl (vs := MetaS.cells x3) rfl (sz (MetaS.len _) Tryd.sizeOf74) (MetaS.sc _) 0 rfl (spl_all ((MetaS.len _).trans (MetaS.len _).symm)) rfl (g0 rfl) rfl ?_)
  refine o_nil ?_
  refine q_then ?_
  refine s_ret ?_
  cases H
  exact q_end (rs_1 Tryd.results112 (rv_cell (j := 0) rfl (hG 0 rfl) Tryd.isAgg74 (sz (MetaS.len _) Tryd.sizeOf74) (sub_all _) rfl)) ⟨rfl, rfl, rfl⟩ [] rfl 0 rfl [] rfl 2 rfl

def version_Confirm (a0_m : MetaS) : Option Int :=
jn (fun (x4 : Int) =>
chk (0 ≤ x4 ∧ x4 < 2) <|
bif (decide ((at' Img.zero a0_m.Have.l x4).Version ≤ 0)) then (
some a0_m.Min) else (
some (if a0_m.Min < (at' Img.zero a0_m.Have.l x4).Version then (at' Img.zero a0_m.Have.l x4).Version else a0_m.Min))) fun J3 =>
bif (a0_m.Active != 0) then (
J3 0) else (
J3 1)

theorem c_version_Confirm (a0_m : MetaS) (r : Int) (H : version_Confirm a0_m = some r) : Fn Tryd.prog 113 [(.agg (MetaS.cells a0_m).toArray)] [] [] (fun v D' G' => v = (vi r) ∧ D' = [] ∧ G' = []) := by
  unfold version_Confirm at H
  refine fn_of Tryd.func113 rfl Tryd.ntmps113 rfl ?_
  intro w0 D0 G0
  dsimp only [app, initEnv, Nat.zero_add, Nat.reduceAdd]
  refine s_seq ?_
  refine s_reg [0, 1] rfl ?_
  refine oc (k_box rfl rfl rfl (cs := MetaS.cells a0_m) rfl (g0 rfl) rfl rfl ?_)
  intro b1
  refine o_pu rfl (ev_assign rfl rfl) (g0 rfl) rfl rfl ?_
  refine o_nil ?_
  refine q_then ?_
  refine s_seq ?_
  refine s_reg [0] rfl ?_
  refine o_pu rfl (ev_assign rfl rfl) (g0 rfl) rfl rfl ?_
  refine o_nil ?_
  refine q_then ?_
  refine s_seq ?_
  refine s_seq ?_
  refine s_reg [0, 1, 2] rfl ?_
  refine o_pu rfl (ev_fieldAddr rfl rfl Tryd.runUnderlying74 rfl Tryd.sizeOf3 rfl rfl) (g0 rfl) rfl rfl ?_
  refine o_ld (hG 0 rfl) rfl (ev_ld1 (j := 0) rfl rfl Tryd.isAgg3 (MetaS.sub_Active _) rfl) (g0 rfl) rfl rfl ?_
  refine o_pu rfl (ev_bin rfl rfl rfl rfl (neq_i _ 0)) (g0 rfl) rfl rfl ?_
  refine o_nil ?_
  refine q_then ?_
  refine q_join (fun (x4 : Int) (y5 : Unit) => ⟨D0, At b1 0 (MetaS.cells a0_m) :: G0, [(1, (.pointer (some ⟨b1, 0, none⟩))), (3, (vi x4))]⟩) H ?_ ?_
  · intro x4 y5 H
    dsimp only
    refine q_then ?_
    refine s_seq ?_
    refine s_reg [0, 1, 2, 3, 4, 5] rfl ?_
    refine o_pu rfl (ev_move rfl rfl) (g0 rfl) rfl rfl ?_
    refine o_pu rfl (ev_fieldAddr rfl rfl Tryd.runUnderlying74 rfl Tryd.sizeOf72 rfl rfl) (g0 rfl) rfl rfl ?_
    obtain ⟨hk6, H⟩ := chk_some H
    refine o_pu rfl (ev_idx_array rfl rfl rfl Tryd.runUnderlying72 Tryd.sizeOf71 hk6 rfl) (g0 rfl) rfl rfl ?_
    refine o_pu rfl (ev_fieldAddr rfl rfl Tryd.runUnderlying71 rfl Tryd.sizeOf3 rfl rfl) (g0 rfl) rfl rfl ?_
    refine o_ld (hG 0 rfl) rfl (ev_ld1 rfl rfl Tryd.isAgg3 (sub_sub (MetaS.sub_Have _) (sub_sub (sub_arr Img.len Img.zero _ (k := x4) hk6 rfl) (Img.sub_Version _) rfl) rfl) (by first | omega | (dsimp only; omega))) (g0 rfl) rfl rfl ?_
    refine o_pu rfl (ev_assign rfl rfl) (g0 rfl) rfl rfl ?_
    refine o_nil ?_
    refine q_then ?_
    refine s_seq ?_
    refine s_seq ?_
    refine s_reg [0, 1] rfl ?_
    refine o_pu rfl (ev_move rfl rfl) (g0 rfl) rfl rfl ?_
    refine o_pu rfl (ev_bin rfl rfl rfl rfl (leq_i _ 0)) (g0 rfl) rfl rfl ?_
    refine o_nil ?_
    refine q_then ?_
    refine s_cond rfl ?_ ?_
    · intro hb7
      have H := cnd_t H hb7
      refine s_seq ?_
      refine s_reg [0, 1, 2] rfl ?_
      refine o_pu rfl (ev_fieldAddr rfl rfl Tryd.runUnderlying74 rfl Tryd.sizeOf3 rfl rfl) (g0 rfl) rfl rfl ?_
      refine o_ld (hG 0 rfl) rfl (ev_ld1 (j := 69) rfl rfl Tryd.isAgg3 (MetaS.sub_Min _) rfl) (g0 rfl) rfl rfl ?_
      refine o_pu rfl (ev_assign rfl rfl) (g0 rfl) rfl rfl ?_
      refine o_nil ?_
      refine q_then ?_
      refine s_ret ?_
      refine q_then_r ?_
      cases H
      exact q_end (rs_1 Tryd.results113 (rv_tmp rfl)) ⟨rfl, rfl, rfl⟩ [] rfl 0 rfl [] rfl 1 rfl
    · intro hb7
      have H := cnd_f H hb7
      refine s_skip ?_
      refine q_then ?_
      refine s_seq ?_
      refine s_reg [0, 1, 2, 3, 4] rfl ?_
      refine o_pu rfl (ev_fieldAddr rfl rfl Tryd.runUnderlying74 rfl Tryd.sizeOf3 rfl rfl) (g0 rfl) rfl rfl ?_
      refine o_ld (hG 0 rfl) rfl (ev_ld1 (j := 69) rfl rfl Tryd.isAgg3 (MetaS.sub_Min _) rfl) (g0 rfl) rfl rfl ?_
      refine o_pu rfl (ev_move rfl rfl) (g0 rfl) rfl rfl ?_
      refine o_pu rfl (ev_max rfl rfl rfl) (g0 rfl) rfl rfl ?_
      refine o_pu rfl (ev_assign rfl rfl) (g0 rfl) rfl rfl ?_
      refine o_nil ?_
      refine q_then ?_
      refine s_ret ?_
      cases H
      exact q_end (rs_1 Tryd.results113 (rv_tmp rfl)) ⟨rfl, rfl, rfl⟩ [] rfl 0 rfl [] rfl 1 rfl
  · intro J3 H
    refine s_cond rfl ?_ ?_
    · intro hb8
      have H := cnd_t H hb8
      refine s_reg [0] rfl ?_
      refine o_pu rfl (ev_assign rfl rfl) (g0 rfl) rfl rfl ?_
      refine o_nil ?_
      exact k_wk (J3 0 () H) [1, 3] [] 0 [0] 0 rfl rfl rfl
    · intro hb8
      have H := cnd_f H hb8
      refine s_skip ?_
      exact k_wk (J3 1 () H) [1, 3] [] 0 [0] 0 rfl rfl rfl

def field_Reader_take (a0_r : ReaderS) (a1_n : Int) : Option ((List UInt8) × ReaderS) :=
bif a0_r.bad then (
some ([], (⟨a0_r.b, a0_r.bad⟩ : ReaderS))) else (
bif (decide (a1_n > (a0_r.b.length : Int))) then (
some ([], (⟨[], true⟩ : ReaderS))) else (
chk (0 ≤ (0 : Int) ∧ (0 : Int) ≤ a1_n ∧ a1_n ≤ (a0_r.b.length : Int)) <|
chk (0 ≤ a1_n ∧ a1_n ≤ (a0_r.b.length : Int) ∧ (a0_r.b.length : Int) ≤ (a0_r.b.length : Int)) <|
some ((slc a0_r.b (0 : Int) a1_n), (⟨(slc a0_r.b a1_n (a0_r.b.length : Int)), a0_r.bad⟩ : ReaderS))))

theorem c_field_Reader_take (a0_rp : Nat) (a0_r : ReaderS) (A1 : Option Addr) (c2 : Nat) (a1_n : Int) (r : (List UInt8) × ReaderS) (H : field_Reader_take a0_r a1_n = some r) : Fn Tryd.prog 114 [(.pointer (some ⟨a0_rp, 0, none⟩)), (vi a1_n)] [Sl E8 A1 c2 a0_r.b] [At a0_rp 0 [.slice A1 a0_r.b.length c2, vb a0_r.bad]] (fun v D' G' => ∃ (A11 : Option Addr) (c12 : Nat) (A13 : Option Addr) (c14 : Nat), v = (.slice A11 r.1.length c12) ∧ D' = [Sl E8 A13 c14 r.2.b, Sl E8 A11 c12 r.1] ∧ G' = [At a0_rp 0 [.slice A13 r.2.b.length c14, vb r.2.bad]]) := by
  unfold field_Reader_take at H
  refine fn_of Tryd.func114 rfl Tryd.ntmps114 rfl ?_
  intro w0 D0 G0
  dsimp only [app, initEnv, Nat.zero_add, Nat.reduceAdd]
  refine s_seq ?_
  refine s_reg [0] rfl ?_
  refine o_pu rfl (ev_assign rfl rfl) (g0 rfl) rfl rfl ?_
  refine o_nil ?_
  refine q_then ?_
  refine s_seq ?_
  refine s_seq ?_
  refine s_reg [0, 1, 2, 3, 4, 5, 6, 7] rfl ?_
  refine o_pu rfl (ev_move rfl rfl) (g0 rfl) rfl rfl ?_
  refine o_pu rfl (ev_bin rfl rfl rfl rfl (eql_ptr_pn Tryd.runUnderlying142)) (g0 rfl) rfl rfl ?_
  refine o_pu rfl (ev_move rfl rfl) (g0 rfl) rfl rfl ?_
  refine o_pu rfl (ev_move rfl rfl) (g1 rfl rfl rfl rfl) rfl rfl ?_
  refine o_pu rfl (ev_nilCheck rfl rfl) (g1 rfl rfl rfl rfl) rfl rfl ?_
  refine o_pu rfl (ev_fieldAddr rfl rfl Tryd.runUnderlying163 rfl Tryd.sizeOf4 rfl rfl) (g1 rfl rfl rfl rfl) rfl rfl ?_
  refine o_ld (hG 0 rfl) rfl (ev_ld1 (j := 1) rfl rfl Tryd.isAgg4 (sub_nth (j := 1) rfl) rfl) (g1 rfl rfl rfl rfl) rfl rfl ?_
  refine o_pu rfl (ev_pick_f rfl rfl rfl) (g0 rfl) rfl rfl ?_
  refine o_nil ?_
  refine q_then ?_
  refine s_cond rfl ?_ ?_
  · intro hb3
    have H := cnd_t H hb3
    refine s_seq ?_
    refine s_reg [0] rfl ?_
    refine o_pu rfl (ev_assign rfl rfl) (g0 rfl) rfl rfl ?_
    refine o_nil ?_
    refine q_then ?_
    refine s_ret ?_
    refine q_then_r ?_
    cases H
    refine k_nil_sl E8 ?_
    exact q_end (rs_1 Tryd.results114 (rv_tmp rfl)) ⟨none, 0, A1, c2, rfl, rfl, rfl⟩ [1, 0] rfl 2 rfl [0] rfl 0 rfl
  · intro hb3
    have H := cnd_f H hb3
    refine s_skip ?_
    refine q_then ?_
    refine s_seq ?_
    refine s_seq ?_
    refine s_reg [0, 1, 2, 3, 4, 5, 6] rfl ?_
    refine o_pu rfl (ev_move rfl rfl) (g0 rfl) rfl rfl ?_
    refine o_pu rfl (ev_move rfl rfl) (g0 rfl) rfl rfl ?_
    refine o_pu rfl (ev_nilCheck rfl rfl) (g0 rfl) rfl rfl ?_
    refine o_pu rfl (ev_fieldAddr rfl rfl Tryd.runUnderlying163 rfl Tryd.sizeOf32 rfl rfl) (g0 rfl) rfl rfl ?_
    refine o_ld (hG 0 rfl) rfl (ev_ld1 (j := 0) rfl rfl Tryd.isAgg32 (sub_nth (j := 0) rfl) rfl) (g0 rfl) rfl rfl ?_
    refine o_pu rfl (ev_len_slice rfl rfl Tryd.runUnderlying32) (g0 rfl) rfl rfl ?_
    refine o_pu rfl (ev_bin rfl rfl rfl rfl (gtr_i _ _)) (g0 rfl) rfl rfl ?_
    refine o_nil ?_
    refine q_then ?_
    refine s_cond rfl ?_ ?_
    · intro hb4
      have H := cnd_t H hb4
      refine s_seq ?_
      refine s_reg [0, 1, 2, 3, 4, 5, 6, 7] rfl ?_
      refine o_pu rfl (ev_move rfl rfl) (g0 rfl) rfl rfl ?_
      refine o_pu rfl (ev_move rfl rfl) (g0 rfl) rfl rfl ?_
      refine o_pu rfl (ev_nilCheck rfl rfl) (g0 rfl) rfl rfl ?_
      refine o_pu rfl (ev_fieldAddr rfl rfl Tryd.runUnderlying163 rfl Tryd.sizeOf32 rfl rfl) (g0 rfl) rfl rfl ?_
      refine oc (k_st (j := 0) rfl rfl rfl rfl (vs := [.slice none 0 0]) rfl (sz rfl Tryd.sizeOf32) rfl 0 rfl (spl_lit (j := 0) (cs' := [.slice none 0 0, vb a0_r.bad]) rfl rfl) rfl (g0 rfl) rfl ?_)
      refine o_pu rfl (ev_nilCheck rfl rfl) (g0 rfl) rfl rfl ?_
      refine o_pu rfl (ev_fieldAddr rfl rfl Tryd.runUnderlying163 rfl Tryd.sizeOf4 rfl rfl) (g0 rfl) rfl rfl ?_
      refine oc (k_st (j := 1) rfl rfl rfl rfl (vs := [vb true]) rfl (sz rfl Tryd.sizeOf4) rfl 0 rfl (spl_lit (j := 1) (cs' := [.slice none 0 0, vb true]) rfl rfl) rfl (g0 rfl) rfl ?_)
      refine o_nil ?_
      refine q_then ?_
      refine s_seq ?_
      refine s_reg [0] rfl ?_
      refine o_pu rfl (ev_assign rfl rfl) (g0 rfl) rfl rfl ?_
      refine o_nil ?_
      refine q_then ?_
      refine s_ret ?_
      refine q_then_r ?_
      cases H
      refine k_nil_sl E8 ?_
      exact q_end (rs_1 Tryd.results114 (rv_tmp rfl)) ⟨none, 0, none, 0, rfl, rfl, rfl⟩ [0, 0] rfl 2 rfl [0] rfl 0 rfl
    · intro hb4
      have H := cnd_f H hb4
      refine s_skip ?_
      refine q_then ?_
      refine s_seq ?_
      refine s_reg [0, 1, 2, 3, 4, 5, 6] rfl ?_
      refine o_pu rfl (ev_move rfl rfl) (g0 rfl) rfl rfl ?_
      refine o_pu rfl (ev_nilCheck rfl rfl) (g0 rfl) rfl rfl ?_
      refine o_pu rfl (ev_fieldAddr rfl rfl Tryd.runUnderlying163 rfl Tryd.sizeOf32 rfl rfl) (g0 rfl) rfl rfl ?_
      refine o_ld (hG 0 rfl) rfl (ev_ld1 (j := 0) rfl rfl Tryd.isAgg32 (sub_nth (j := 0) rfl) rfl) (g0 rfl) rfl rfl ?_
      refine o_pu rfl (ev_move rfl rfl) (g0 rfl) rfl rfl ?_
      obtain ⟨hk7, H⟩ := chk_some H
      refine oc (k_slice (ka := .i64) (a := (0 : Int)) (b := a1_n) 0 rfl rfl rfl rfl E8_len Tryd.runUnderlying32 Tryd.sizeOf5 (.inl ⟨rfl, rfl⟩) (.inr rfl) hk7 (g0 rfl) rfl rfl ?_)
      intro A5 c6
      refine o_pu rfl (ev_assign rfl rfl) (g0 rfl) rfl rfl ?_
      refine o_nil ?_
      refine q_then ?_
      refine s_seq ?_
      refine s_reg [0, 1, 2, 3, 4, 5, 6, 7, 8, 9] rfl ?_
      refine o_pu rfl (ev_move rfl rfl) (g0 rfl) rfl rfl ?_
      refine o_pu rfl (ev_move rfl rfl) (g0 rfl) rfl rfl ?_
      refine o_pu rfl (ev_nilCheck rfl rfl) (g0 rfl) rfl rfl ?_
      refine o_pu rfl (ev_fieldAddr rfl rfl Tryd.runUnderlying163 rfl Tryd.sizeOf32 rfl rfl) (g0 rfl) rfl rfl ?_
      refine o_ld (hG 0 rfl) rfl (ev_ld1 (j := 0) rfl rfl Tryd.isAgg32 (sub_nth (j := 0) rfl) rfl) (g0 rfl) rfl rfl ?_
      refine o_pu rfl (ev_move rfl rfl) (g0 rfl) rfl rfl ?_
      obtain ⟨hk10, H⟩ := chk_some H
      refine oc (k_slice (kb := .i64) (a := a1_n) (b := (a0_r.b.length : Int)) 1 rfl rfl rfl rfl E8_len Tryd.runUnderlying32 Tryd.sizeOf5 (.inr rfl) (.inl ⟨rfl, rfl⟩) hk10 (g0 rfl) rfl rfl ?_)
      intro A8 c9
      refine o_pu rfl (ev_nilCheck rfl rfl) (g0 rfl) rfl rfl ?_
      refine o_pu rfl (ev_fieldAddr rfl rfl Tryd.runUnderlying163 rfl Tryd.sizeOf32 rfl rfl) (g0 rfl) rfl rfl ?_
      refine oc (k_st (j := 0) rfl rfl rfl rfl (vs := [.slice A8 (slc a0_r.b a1_n (a0_r.b.length : Int)).length c9]) rfl (sz rfl Tryd.sizeOf32) rfl 0 rfl (spl_lit (j := 0) (cs' := [.slice A8 (slc a0_r.b a1_n (a0_r.b.length : Int)).length c9, vb a0_r.bad]) rfl rfl) rfl (g0 rfl) rfl ?_)
      refine o_nil ?_
      refine q_then ?_
      refine s_seq ?_
      refine s_reg [0, 1] rfl ?_
      refine o_pu rfl (ev_move rfl rfl) (g0 rfl) rfl rfl ?_
      refine o_pu rfl (ev_assign rfl rfl) (g0 rfl) rfl rfl ?_
      refine o_nil ?_
      refine q_then ?_
      refine s_ret ?_
      cases H
      exact q_end (rs_1 Tryd.results114 (rv_tmp rfl)) ⟨A5, c6, A8, c9, rfl, rfl, rfl⟩ [0, 1] rfl 3 rfl [0] rfl 0 rfl

def strings_trimRightByte_l0 (a1_c : UInt8) (J1 : (List UInt8) → Option (List UInt8)) : Nat → (List UInt8) → Option (List UInt8)
  | 0, _ => none
  | k4 + 1, s4 =>
    bnd (decide ((s4.length : Int) > 0)) fun b5 =>
    jn (fun x8 =>
    bif x8 then (
    chk (0 ≤ (0 : Int) ∧ (0 : Int) ≤ (wrap64 ((s4.length : Int) - 1)) ∧ (wrap64 ((s4.length : Int) - 1)) ≤ s4.length) <|
    strings_trimRightByte_l0 a1_c J1 k4 (slc s4 (0 : Int) (wrap64 ((s4.length : Int) - 1)))) else (
    J1 s4)) fun J7 =>
    bif b5 then (
    chk (0 ≤ (wrap64 ((s4.length : Int) - 1)) ∧ (wrap64 ((s4.length : Int) - 1)) < s4.length) <|
    J7 (((at' 0 s4 (wrap64 ((s4.length : Int) - 1))) : UInt8) == (a1_c : UInt8))) else
    J7 false

def strings_trimRightByte (a0_s : List UInt8) (a1_c : UInt8) : Option (List UInt8) :=
jn (fun (x2 : List UInt8) =>
some x2) fun J1 =>
strings_trimRightByte_l0 a1_c J1 Fuel a0_s

theorem c_strings_trimRightByte (a0_s : List UInt8) (a1_c : UInt8) (r : (List UInt8)) (H : strings_trimRightByte a0_s a1_c = some r) : Fn Tryd.prog 115 [(vs a0_s), (v8 a1_c)] [] [] (fun v D' G' => v = (vs r) ∧ D' = [] ∧ G' = []) := by
  unfold strings_trimRightByte at H
  refine fn_of Tryd.func115 rfl Tryd.ntmps115 rfl ?_
  intro w0 D0 G0
  dsimp only [app, initEnv, Nat.zero_add, Nat.reduceAdd]
  refine s_seq ?_
  refine s_reg [0] rfl ?_
  refine o_pu rfl (ev_assign rfl rfl) (g0 rfl) rfl rfl ?_
  refine o_nil ?_
  refine q_then ?_
  refine s_seq ?_
  refine q_join (fun (x2 : List UInt8) (y3 : Unit) => ⟨D0, G0, [(0, (vs x2))]⟩) H ?_ ?_
  · intro x2 y3 H
    dsimp only
    refine q_then ?_
    refine s_seq ?_
    refine s_reg [0, 1] rfl ?_
    refine o_pu rfl (ev_move rfl rfl) (g0 rfl) rfl rfl ?_
    refine o_pu rfl (ev_assign rfl rfl) (g0 rfl) rfl rfl ?_
    refine o_nil ?_
    refine q_then ?_
    refine s_ret ?_
    cases H
    exact q_end (rs_1 Tryd.results115 (rv_tmp rfl)) ⟨rfl, rfl, rfl⟩ [] rfl 0 rfl [] rfl 0 rfl
  · intro J1 H
    refine s_block ?_
    refine s_loop (k_wk (loop_ind (fun (s4 : List UInt8) (y4 : Unit) => ⟨D0, G0, [(0, (vs s4)), (1, (v8 a1_c))]⟩) (strings_trimRightByte_l0 a1_c _) _ (fun _ => rfl) ?_ Fuel a0_s () H) [0, 1] [] 0 [] 0 rfl rfl rfl)
    intro k4 s4 y4 ih H
    dsimp only
    rw [strings_trimRightByte_l0] at H
    refine s_seq ?_
    refine s_seq ?_
    refine s_reg [0, 1, 2, 3, 4, 5, 6, 7, 8, 9, 10, 11] rfl ?_
    refine o_pu rfl (ev_move rfl rfl) (g0 rfl) rfl rfl ?_
    refine o_pu rfl (ev_len_string rfl rfl Tryd.runUnderlying9) (g0 rfl) rfl rfl ?_
    refine o_pu rfl (ev_bin rfl rfl rfl rfl (gtr_i _ 0)) (g0 rfl) rfl rfl ?_
    refine o_pu rfl (ev_move rfl rfl) (g0 rfl) rfl rfl ?_
    refine k_name 8 rfl ?_
    intro b5 hb6
    have H := bnd_eq H hb6
    refine o_jb 16 [] [0, 1, 5, 6, 7, 8] H rfl ?_ ?_
    · intro x8 H
      refine o_nil ?_
      refine q_then ?_
      refine s_cond rfl ?_ ?_
      · intro hb9
        have H := cnd_t H hb9
        refine s_skip ?_
        refine q_then ?_
        refine s_block ?_
        refine s_reg [0, 1, 2, 3, 4, 5] rfl ?_
        refine o_pu rfl (ev_move rfl rfl) (g0 rfl) rfl rfl ?_
        refine o_pu rfl (ev_move rfl rfl) (g0 rfl) rfl rfl ?_
        refine o_pu rfl (ev_len_string rfl rfl Tryd.runUnderlying9) (g0 rfl) rfl rfl ?_
        refine o_pu rfl (ev_bin rfl rfl rfl rfl (sub_i _ 1)) (g0 rfl) rfl rfl ?_
        obtain ⟨hk10, H⟩ := chk_some H
        refine o_pu rfl (ev_slice_string (ka := .i64) (a := (0 : Int)) (b := (wrap64 ((s4.length : Int) - 1))) rfl rfl Tryd.runUnderlying9 (.inl ⟨rfl, rfl⟩) (.inr rfl) hk10) (g0 rfl) rfl rfl ?_
        refine o_pu rfl (ev_assign rfl rfl) (g0 rfl) rfl rfl ?_
        refine o_nil ?_
        refine q_block ?_
        refine q_loop ?_
        exact k_wk (ih (slc s4 (0 : Int) (wrap64 ((s4.length : Int) - 1))) () H) [0, 1] [] 0 [] 0 rfl rfl rfl
      · intro hb9
        have H := cnd_f H hb9
        refine s_exit ?_
        refine q_then_x ?_
        refine q_then_x ?_
        refine q_block_x ?_
        exact k_wk (J1 s4 () H) [0] [] 0 [] 0 rfl rfl rfl
    · intro J7 H
      cases b5 with
      | true =>
        rw [cond_true] at H
        refine o_pu rfl (ev_move rfl rfl) (g1 rfl rfl rfl rfl) rfl rfl ?_
        refine o_pu rfl (ev_move rfl rfl) (g1 rfl rfl rfl rfl) rfl rfl ?_
        refine o_pu rfl (ev_len_string rfl rfl Tryd.runUnderlying9) (g1 rfl rfl rfl rfl) rfl rfl ?_
        refine o_pu rfl (ev_bin rfl rfl rfl rfl (sub_i _ 1)) (g1 rfl rfl rfl rfl) rfl rfl ?_
        obtain ⟨hk11, H⟩ := chk_some H
        refine o_pu rfl (ev_index_string rfl rfl rfl Tryd.runUnderlying9 hk11) (g1 rfl rfl rfl rfl) rfl rfl ?_
        refine o_pu rfl (ev_move rfl rfl) (g1 rfl rfl rfl rfl) rfl rfl ?_
        refine o_pu rfl (ev_bin rfl rfl rfl rfl (eql_8 _ _)) (g1 rfl rfl rfl rfl) rfl rfl ?_
        refine o_pu rfl (ev_pick_t rfl rfl rfl) (g0 rfl) rfl rfl ?_
        exact k_wk (J7 (((at' 0 s4 (wrap64 ((s4.length : Int) - 1))) : UInt8) == (a1_c : UInt8)) H) [16, 0, 1, 5, 6, 7, 8] [] 0 [] 0 rfl rfl rfl
      | false =>
        rw [cond_false] at H
        refine o_gnot rfl rfl rfl rfl rfl rfl rfl rfl ?_
        refine o_gnot rfl rfl rfl rfl rfl rfl rfl rfl ?_
        refine o_gnot rfl rfl rfl rfl rfl rfl rfl rfl ?_
        refine o_gnot rfl rfl rfl rfl rfl rfl rfl rfl ?_
        refine o_gnot rfl rfl rfl rfl rfl rfl rfl rfl ?_
        refine o_gnot rfl rfl rfl rfl rfl rfl rfl rfl ?_
        refine o_gnot rfl rfl rfl rfl rfl rfl rfl rfl ?_
        refine o_pu rfl (ev_pick_f rfl rfl rfl) (g0 rfl) rfl rfl ?_
        exact k_wk (J7 false H) [16, 0, 1, 5, 6, 7, 8] [] 0 [] 0 rfl rfl rfl

end Go.Proofs.YtphbbnlbfbhcaaaDoor.Wl
