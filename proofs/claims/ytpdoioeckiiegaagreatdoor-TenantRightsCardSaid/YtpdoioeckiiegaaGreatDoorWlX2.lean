import Derived.Test.YtpdoioeckiiegaaGreatDoorWlW
import Derived.Test.YtpdoioeckiiegaaGreatDoorWlX0
import Derived.Test.YtpdoioeckiiegaaGreatDoorWlX1
set_option linter.unusedSimpArgs false
set_option linter.unusedVariables false
set_option maxRecDepth 10000
namespace Go.Proofs.YtpdoioeckiiegaaGreatDoor.Wl
open Go.RowKit Go.Proofs
def names_may (a0_r : Int) : Option Bool :=
bnd (decide (a0_r ≥ 97)) fun b1 =>
jn (fun x4 =>
bnd x4 fun b5 =>
jn (fun x8 =>
bnd x8 fun b9 =>
jn (fun x12 =>
some x12) fun J11 =>
bif b9 then (
J11 true) else
bnd (decide (a0_r ≥ 945)) fun b13 =>
jn (fun x16 =>
J11 x16) fun J15 =>
bif b13 then (
J15 (decide (a0_r ≤ 969))) else
J15 false) fun J7 =>
bif b5 then (
J7 true) else
bnd (decide (a0_r ≥ 48)) fun b17 =>
jn (fun x20 =>
J7 x20) fun J19 =>
bif b17 then (
J19 (decide (a0_r ≤ 57))) else
J19 false) fun J3 =>
bif b1 then (
J3 (decide (a0_r ≤ 122))) else
J3 false

theorem c_names_may (a0_r : Int) (r : Bool) (H : names_may a0_r = some r) : Fn Tryz.prog 204 [(vr a0_r)] [] [] (fun v D' G' => v = (vb r) ∧ D' = [] ∧ G' = []) := by
  unfold names_may at H
  refine fn_of Tryz.func204 rfl Tryz.ntmps204 rfl ?_
  intro w0 D0 G0
  dsimp only [app, initEnv, Nat.zero_add, Nat.reduceAdd]
  refine s_seq ?_
  refine s_reg [0] rfl ?_
  refine o_run ft [0] rfl rfl ?_
  refine o_nil ?_
  refine q_then ?_
  refine s_seq ?_
  refine s_reg [0, 1, 2, 3, 4, 5, 6, 7, 8, 9, 10, 11, 12, 13, 14, 15, 16, 17, 18, 19, 20, 21, 22] rfl ?_
  refine o_run ft [0] rfl rfl ?_
  refine o_pu rfl (ev_bin rfl rfl rfl rfl (geq_r _ 97)) (g0 rfl) rfl rfl ?_
  refine o_run ft [2] rfl rfl ?_
  refine k_name 5 rfl ?_
  intro b1 hb2
  have H := bnd_eq H hb2
  refine o_jb 8 [6, 7, 8, 9, 10, 11, 12, 13, 14, 15, 16, 17, 18, 19, 20, 21, 22] [0, 2, 3, 4, 5] H rfl ?_ ?_
  · intro x4 H
    refine o_run ft [6] rfl rfl ?_
    refine k_name 9 rfl ?_
    intro b5 hb6
    have H := bnd_eq H hb6
    refine o_jb 16 [14, 15, 16, 17, 18, 19, 20, 21, 22] [0, 2, 3, 4, 5, 8, 9] H rfl ?_ ?_
    · intro x8 H
      refine o_run ft [14] rfl rfl ?_
      refine k_name 17 rfl ?_
      intro b9 hb10
      have H := bnd_eq H hb10
      refine o_jb 24 [22] [0, 2, 3, 4, 5, 8, 9, 16, 17] H rfl ?_ ?_
      · intro x12 H
        refine o_run ft [22] rfl rfl ?_
        refine o_nil ?_
        refine q_then ?_
        refine s_ret ?_
        cases H
        exact q_end (rs_1 Tryz.results204 (rv_tmp rfl)) ⟨rfl, rfl, rfl⟩ [] rfl 0 rfl [] rfl 0 rfl
      · intro J11 J11h H
        cases b9 with
        | true =>
          rw [cond_true] at H
          refine o_gnot rfl rfl rfl rfl rfl rfl rfl rfl ?_
          refine o_gnot rfl rfl rfl rfl rfl rfl rfl rfl ?_
          refine o_gnot rfl rfl rfl rfl rfl rfl rfl rfl ?_
          refine o_gundef rfl rfl rfl rfl rfl rfl rfl ?_
          refine o_gundef rfl rfl rfl rfl rfl rfl rfl ?_
          refine o_gnot rfl rfl rfl rfl rfl rfl rfl rfl ?_
          refine o_run ft [21] rfl rfl ?_
          exact k_wk (J11h true H) [24, 0, 2, 3, 4, 5, 8, 9, 16, 17] [] 0 [] 0 rfl rfl rfl
        | false =>
          rw [cond_false] at H
          refine o_run ft [15] rfl rfl ?_
          refine o_pu rfl (ev_bin rfl rfl rfl rfl (geq_r _ 945)) (g1 rfl rfl rfl rfl) rfl rfl ?_
          refine o_run ft [17] rfl rfl ?_
          refine k_name 20 rfl ?_
          intro b13 hb14
          have H := bnd_eq H hb14
          refine o_jb 23 [21, 22] [0, 2, 3, 4, 5, 8, 9, 16, 17, 18, 19, 20] H rfl ?_ ?_
          · intro x16 H
            refine o_run ft [21] rfl rfl ?_
            exact k_wk (J11h x16 H) [24, 0, 2, 3, 4, 5, 8, 9, 16, 17] [] 0 [] 0 rfl rfl rfl
          · intro J15 J15h H
            cases b13 with
            | true =>
              rw [cond_true] at H
              refine o_run ft [18] rfl rfl ?_
              refine o_pu rfl (ev_bin rfl rfl rfl rfl (leq_r _ 969)) (g1 rfl rfl rfl rfl) rfl rfl ?_
              refine o_run ft [20] rfl rfl ?_
              exact k_wk (J15h (decide (a0_r ≤ 969)) H) [23, 0, 2, 3, 4, 5, 8, 9, 16, 17, 18, 19, 20] [] 0 [] 0 rfl rfl rfl
            | false =>
              rw [cond_false] at H
              refine o_gnot rfl rfl rfl rfl rfl rfl rfl rfl ?_
              refine o_gnot rfl rfl rfl rfl rfl rfl rfl rfl ?_
              refine o_run ft [20] rfl rfl ?_
              exact k_wk (J15h false H) [23, 0, 2, 3, 4, 5, 8, 9, 16, 17, 18, 19, 20] [] 0 [] 0 rfl rfl rfl
    · intro J7 J7h H
      cases b5 with
      | true =>
        rw [cond_true] at H
        refine o_gnot rfl rfl rfl rfl rfl rfl rfl rfl ?_
        refine o_gnot rfl rfl rfl rfl rfl rfl rfl rfl ?_
        refine o_gnot rfl rfl rfl rfl rfl rfl rfl rfl ?_
        refine o_gundef rfl rfl rfl rfl rfl rfl rfl ?_
        refine o_gundef rfl rfl rfl rfl rfl rfl rfl ?_
        refine o_gnot rfl rfl rfl rfl rfl rfl rfl rfl ?_
        refine o_run ft [13] rfl rfl ?_
        exact k_wk (J7h true H) [16, 0, 2, 3, 4, 5, 8, 9] [] 0 [] 0 rfl rfl rfl
      | false =>
        rw [cond_false] at H
        refine o_run ft [7] rfl rfl ?_
        refine o_pu rfl (ev_bin rfl rfl rfl rfl (geq_r _ 48)) (g1 rfl rfl rfl rfl) rfl rfl ?_
        refine o_run ft [9] rfl rfl ?_
        refine k_name 12 rfl ?_
        intro b17 hb18
        have H := bnd_eq H hb18
        refine o_jb 15 [13, 14, 15, 16, 17, 18, 19, 20, 21, 22] [0, 2, 3, 4, 5, 8, 9, 10, 11, 12] H rfl ?_ ?_
        · intro x20 H
          refine o_run ft [13] rfl rfl ?_
          exact k_wk (J7h x20 H) [16, 0, 2, 3, 4, 5, 8, 9] [] 0 [] 0 rfl rfl rfl
        · intro J19 J19h H
          cases b17 with
          | true =>
            rw [cond_true] at H
            refine o_run ft [10] rfl rfl ?_
            refine o_pu rfl (ev_bin rfl rfl rfl rfl (leq_r _ 57)) (g1 rfl rfl rfl rfl) rfl rfl ?_
            refine o_run ft [12] rfl rfl ?_
            exact k_wk (J19h (decide (a0_r ≤ 57)) H) [15, 0, 2, 3, 4, 5, 8, 9, 10, 11, 12] [] 0 [] 0 rfl rfl rfl
          | false =>
            rw [cond_false] at H
            refine o_gnot rfl rfl rfl rfl rfl rfl rfl rfl ?_
            refine o_gnot rfl rfl rfl rfl rfl rfl rfl rfl ?_
            refine o_run ft [12] rfl rfl ?_
            exact k_wk (J19h false H) [15, 0, 2, 3, 4, 5, 8, 9, 10, 11, 12] [] 0 [] 0 rfl rfl rfl
  · intro J3 J3h H
    cases b1 with
    | true =>
      rw [cond_true] at H
      refine o_run ft [3] rfl rfl ?_
      refine o_pu rfl (ev_bin rfl rfl rfl rfl (leq_r _ 122)) (g1 rfl rfl rfl rfl) rfl rfl ?_
      refine o_run ft [5] rfl rfl ?_
      exact k_wk (J3h (decide (a0_r ≤ 122)) H) [8, 0, 2, 3, 4, 5] [] 0 [] 0 rfl rfl rfl
    | false =>
      rw [cond_false] at H
      refine o_gnot rfl rfl rfl rfl rfl rfl rfl rfl ?_
      refine o_gnot rfl rfl rfl rfl rfl rfl rfl rfl ?_
      refine o_run ft [5] rfl rfl ?_
      exact k_wk (J3h false H) [8, 0, 2, 3, 4, 5] [] 0 [] 0 rfl rfl rfl

def nor_Flash_Off (a0_f : FlashS) : Option Bool :=
some a0_f.off

theorem c_nor_Flash_Off (a0_fp : Nat) (a0_f : FlashS) (a0_fg : FlashG) (r : Bool) (H : nor_Flash_Off a0_f = some r) : Fn Tryz.prog 206 [(.pointer (some ⟨a0_fp, 0, none⟩))] [] [FlashT a0_fg a0_fp a0_f] (fun v D' G' => v = (vb r) ∧ D' = [] ∧ G' = [FlashT a0_fg a0_fp a0_f]) := by
  unfold nor_Flash_Off at H
  refine fn_of Tryz.func206 rfl Tryz.ntmps206 rfl ?_
  intro w0 D0 G0
  dsimp only [app, initEnv, Nat.zero_add, Nat.reduceAdd]
  refine s_seq ?_
  refine s_reg [0] rfl ?_
  refine o_run ft [0] rfl rfl ?_
  refine o_nil ?_
  refine q_then ?_
  refine s_seq ?_
  refine s_reg [0, 1, 2, 3, 4, 5, 6, 7, 8] rfl ?_
  refine o_run ft [0] rfl rfl ?_
  refine o_pu rfl (ev_bin rfl rfl rfl rfl (neq_ptr_pn Tryz.runUnderlying29)) (g0 rfl) rfl rfl ?_
  refine o_run ft [2, 3, 4, 5] rfl rfl ?_
  refine k_unp 0 rfl ?_
  dsimp only [app, del]
  refine o_ld (hG 0 rfl) rfl (ev_ld1 (j := 4) rfl rfl Tryz.isAgg4 (sub_nth (j := 4) rfl) rfl) (g1 rfl rfl rfl rfl) rfl rfl ?_
  refine o_run ft [7, 8] rfl rfl ?_
  refine o_nil ?_
  refine q_then ?_
  refine s_ret ?_
  refine k_pk (FlashT a0_fg a0_fp a0_f) rfl [0] [0, 0, 0] rfl rfl ?_
  cases H
  exact q_end (rs_1 Tryz.results206 (rv_tmp rfl)) ⟨rfl, rfl, rfl⟩ [] rfl 1 rfl [0] rfl 0 rfl

def dual_Get_l0 (a0_b : List UInt8) (J6 : (List UInt8) → Option ((List UInt8) × Bool)) : Nat → (List UInt8 × Int) → Option ((List UInt8) × Bool)
  | 0, _ => none
  | k9 + 1, s9 =>
    bif (decide (s9.2 < (a0_b.length : Int))) then (
    chk (0 ≤ s9.2 ∧ s9.2 < a0_b.length) <|
    chk (0 ≤ (wrap64 (s9.2 + 1)) ∧ (wrap64 (s9.2 + 1)) < a0_b.length) <|
    bif (((at' 0 a0_b s9.2) : UInt8) != ((~~~(at' 0 a0_b (wrap64 (s9.2 + 1)))) : UInt8)) then (
    some ([], false)) else (
    chk (0 ≤ s9.2 ∧ s9.2 < a0_b.length) <|
    chk (s9.1.length + ([(at' 0 a0_b s9.2)] : List UInt8).length ≤ 68719476736) <|
    dual_Get_l0 a0_b J6 k9 ((s9.1 ++ ([(at' 0 a0_b s9.2)] : List UInt8)), (wrap64 (s9.2 + 2))))) else (
    J6 s9.1)

def dual_Get (a0_b : List UInt8) : Option ((List UInt8) × Bool) :=
bif (((a0_b.length : Int).tmod 2) != 0) then (
some ([], false)) else (
chk (0 ≤ (wrap64 ((a0_b.length : Int).tdiv 2)) ∧ (wrap64 ((a0_b.length : Int).tdiv 2)) ≤ 68719476736) <|
jn (fun (x7 : List UInt8) =>
some (x7, true)) fun J6 =>
dual_Get_l0 a0_b J6 Fuel ([], 0))

theorem c_dual_Get (a0_b : List UInt8) (A1 : Option Addr) (c2 : Nat) (r : (List UInt8) × Bool) (H : dual_Get a0_b = some r) : Fn Tryz.prog 208 [(.slice A1 a0_b.length c2)] [Sl E8 A1 c2 a0_b] [] (fun v D' G' => ∃ (A29 : Option Addr) (c30 : Nat), v = (.tuple #[(.slice A29 r.1.length c30), (vb r.2)]) ∧ D' = [Sl E8 A29 c30 r.1] ∧ G' = [Spare A29 r.1.length c30 1]) := by
  unfold dual_Get at H
  refine fn_of Tryz.func208 rfl Tryz.ntmps208 rfl ?_
  intro w0 D0 G0
  dsimp only [app, initEnv, Nat.zero_add, Nat.reduceAdd]
  refine s_seq ?_
  refine s_reg [0, 1] rfl ?_
  refine o_run ft [0, 1] rfl rfl ?_
  refine o_nil ?_
  refine q_then ?_
  refine s_seq ?_
  refine s_seq ?_
  refine s_reg [0, 1, 2, 3] rfl ?_
  refine o_run ft [0] rfl rfl ?_
  refine o_pu rfl (ev_len_slice rfl rfl Tryz.runUnderlying22) (g0 rfl) rfl rfl ?_
  refine o_pu rfl (ev_bin rfl rfl rfl rfl (rem_i _ 2 rfl)) (g0 rfl) rfl rfl ?_
  refine o_run ft [3] rfl rfl ?_
  refine o_nil ?_
  refine q_then ?_
  refine s_cond rfl ?_ ?_
  · intro hb3
    have H := cnd_t H hb3
    refine s_seq ?_
    refine s_reg [0, 1] rfl ?_
    refine o_run ft [0, 1] rfl rfl ?_
    refine o_nil ?_
    refine q_then ?_
    refine s_ret ?_
    refine q_then_r ?_
    cases H
    refine k_nil_sl E8 ?_
    refine k_nil_spare 1 ?_
    exact q_end (rs_2 Tryz.results208 (rv_tmp rfl) (rv_tmp rfl)) ⟨none, 0, rfl, rfl, rfl⟩ [0] rfl 2 rfl [0] rfl 0 rfl
  · intro hb3
    have H := cnd_f H hb3
    refine s_skip ?_
    refine q_then ?_
    refine s_seq ?_
    refine s_reg [0, 1, 2, 3, 4] rfl ?_
    refine o_run ft [0] rfl rfl ?_
    refine o_pu rfl (ev_len_slice rfl rfl Tryz.runUnderlying22) (g0 rfl) rfl rfl ?_
    refine o_pu rfl (ev_bin rfl rfl rfl rfl (quo_i _ 2 rfl)) (g0 rfl) rfl rfl ?_
    obtain ⟨hk5, H⟩ := chk_some H
    refine oc (k_make0 (f := E8) (m := (wrap64 ((a0_b.length : Int).tdiv 2))) rfl rfl rfl rfl Tryz.underlying22 info5 rfl rfl rfl rfl hk5 (g0 rfl) rfl rfl ?_)
    intro b4
    refine o_run ft [4] rfl rfl ?_
    refine o_nil ?_
    refine q_then ?_
    refine s_seq ?_
    refine s_seq ?_
    refine s_reg [0] rfl ?_
    refine o_run ft [0] rfl rfl ?_
    refine o_nil ?_
    refine q_then ?_
    refine q_join (fun (x7 : List UInt8) (y8 : Option Addr × Nat) => ⟨Sl E8 y8.1 y8.2 x7 :: Sl E8 (some ⟨b4, 0, none⟩) ((wrap64 ((a0_b.length : Int).tdiv 2)).toNat) [] :: Sl E8 A1 c2 a0_b :: D0, Spare y8.1 x7.length y8.2 1 :: G0, [(4, (.slice y8.1 x7.length y8.2))]⟩) H ?_ ?_
    · intro x7 y8 H
      dsimp only
      refine q_then ?_
      refine s_seq ?_
      refine s_reg [0, 1, 2] rfl ?_
      refine o_run ft [0, 1, 2] rfl rfl ?_
      refine o_nil ?_
      refine q_then ?_
      refine s_ret ?_
      cases H
      exact q_end (rs_2 Tryz.results208 (rv_tmp rfl) (rv_tmp rfl)) ⟨y8.1, y8.2, rfl, rfl, rfl⟩ [0] rfl 3 rfl [0] rfl 0 rfl
    · intro J6 J6h H
      refine s_block ?_
      refine s_loop (k_wk (loop_ind (fun (s9 : List UInt8 × Int) (y9 : Option Addr × Nat) => ⟨Sl E8 y9.1 y9.2 s9.1 :: Sl E8 (some ⟨b4, 0, none⟩) ((wrap64 ((a0_b.length : Int).tdiv 2)).toNat) [] :: Sl E8 A1 c2 a0_b :: D0, Spare y9.1 s9.1.length y9.2 1 :: G0, [(0, (.slice A1 a0_b.length c2)), (4, (.slice y9.1 s9.1.length y9.2)), (5, (vi s9.2))]⟩) (dual_Get_l0 a0_b J6) _ (fun _ => rfl) ?_ Fuel ([], 0) ((some ⟨b4, 0, none⟩), (wrap64 ((a0_b.length : Int).tdiv 2)).toNat) H) [0, 4, 5] [0, 0, 1] 2 [0] 0 rfl rfl rfl)
      intro k9 s9 y9 ih H
      dsimp only
      rw [dual_Get_l0] at H
      refine s_seq ?_
      refine s_seq ?_
      refine s_reg [0, 1, 2, 3] rfl ?_
      refine o_run ft [0, 1] rfl rfl ?_
      refine o_pu rfl (ev_len_slice rfl rfl Tryz.runUnderlying22) (g0 rfl) rfl rfl ?_
      refine o_run ft [3] rfl rfl ?_
      refine o_nil ?_
      refine q_then ?_
      refine s_cond rfl ?_ ?_
      · intro hb10
        have H := cnd_t H hb10
        refine s_skip ?_
        refine q_then ?_
        refine s_seq ?_
        refine s_block ?_
        refine s_seq ?_
        refine s_seq ?_
        obtain ⟨hk15, H⟩ := chk_some H
        refine k_elem (k := s9.2) 0 2 rfl E8_len rfl hk15 ?_
        intro b11 p12 q13 hA14
        obtain ⟨hk20, H⟩ := chk_some H
        refine k_elem (k := (wrap64 (s9.2 + 1))) 0 3 rfl E8_len rfl hk20 ?_
        intro b16 p17 q18 hA19
        refine s_draw mixed [(3, [], Has b11 q13 [v8 (at' 0 a0_b s9.2)]), (8, [], Has b16 q18 [v8 (at' 0 a0_b (wrap64 (s9.2 + 1)))])] ?_
        refine a_run ft [0, 1] rfl (fun _ _ _ _ _ h => h) (by kernel_rfl) rfl ?_
        refine a_p1 2 (by kernel_rfl) rfl (ev_idx_sl rfl rfl rfl Tryz.runUnderlying22 Tryz.sizeOf5 hk15 hA14) (fun _ _ _ h => h) (g0 rfl) rfl rfl ?_
        refine a_l1 3 0 rfl (by kernel_rfl) rfl (ev_ld1 (j := 0) rfl rfl Tryz.isAgg5 (sub_nth (j := 0) rfl) rfl) (fun _ _ _ h => h) (g0 rfl) rfl rfl ?_
        refine a_run ft [4, 5, 6] rfl (fun _ _ _ _ _ h => h) (by kernel_rfl) rfl ?_
        refine a_p1 7 (by kernel_rfl) rfl (ev_idx_sl rfl rfl rfl Tryz.runUnderlying22 Tryz.sizeOf5 hk20 hA19) (fun _ _ _ h => h) (g0 rfl) rfl rfl ?_
        refine a_l1 8 1 rfl (by kernel_rfl) rfl (ev_ld1 (j := 0) rfl rfl Tryz.isAgg5 (sub_nth (j := 0) rfl) rfl) (fun _ _ _ h => h) (g0 rfl) rfl rfl ?_
        refine a_p1 9 (by kernel_rfl) rfl (ev_un rfl rfl (not_8 _)) (fun _ _ _ h => h) (g0 rfl) rfl rfl ?_
        refine a_p1 10 (by kernel_rfl) rfl (ev_bin rfl rfl rfl rfl (neq_8 _ _)) (fun _ _ _ h => h) (g0 rfl) rfl rfl ?_
        refine a_done (by kernel_rfl) (sl_cons (hD 1 rfl) (sl_cons (hD 0 rfl) sl_nil)) ?_
        refine q_then ?_
        refine s_cond rfl ?_ ?_
        · intro hb21
          have H := cnd_t H hb21
          refine s_seq ?_
          refine s_reg [0, 1] rfl ?_
          refine o_run ft [0, 1] rfl rfl ?_
          refine o_nil ?_
          refine q_then ?_
          refine s_ret ?_
          refine q_then_r ?_
          refine q_block_r ?_
          refine q_then_r ?_
          refine q_then_r ?_
          refine q_block_r ?_
          refine q_then_r ?_
          cases H
          refine k_nil_sl E8 ?_
          refine k_nil_spare 1 ?_
          exact q_end (rs_2 Tryz.results208 (rv_tmp rfl) (rv_tmp rfl)) ⟨none, 0, rfl, rfl, rfl⟩ [0] rfl 6 rfl [0] rfl 1 rfl
        · intro hb21
          have H := cnd_f H hb21
          refine s_skip ?_
          refine q_then ?_
          refine s_reg [0, 1, 2, 3, 4, 5, 6, 7] rfl ?_
          refine o_run ft [0, 1, 2] rfl rfl ?_
          obtain ⟨hk24, H⟩ := chk_some H
          refine oc (k_idx 0 4 rfl rfl rfl rfl rfl E8_len rfl Tryz.runUnderlying22 Tryz.sizeOf5 hk24 (g0 rfl) rfl rfl ?_)
          intro b22 q23
          refine o_ld (hD 0 rfl) rfl (ev_ld1 (j := 0) rfl rfl Tryz.isAgg5 (sub_nth (j := 0) rfl) rfl) (g0 rfl) rfl rfl ?_
          refine oc (k_buildSlice (f := E8) ([(at' 0 a0_b s9.2)] : List UInt8) rfl rfl rfl rfl Tryz.runUnderlying22 Tryz.sizeOf5 Tryz.zeroValue5 rfl rfl (fill_all rfl rfl (by simp) rfl rfl) (g0 rfl) rfl rfl ?_)
          intro b25
          obtain ⟨hk28, H⟩ := chk_some H
          refine oc (k_append 4 0 0 rfl rfl rfl rfl rfl rfl rfl E8_len E8_one Tryz.underlying22 Tryz.underlying22 info5 rfl rfl rfl rfl hk28 (g0 rfl) rfl rfl ?_)
          intro A26 c27
          refine o_run ft [7] rfl rfl ?_
          refine o_nil ?_
          refine q_block ?_
          refine q_then ?_
          refine s_reg [0, 1, 2] rfl ?_
          refine o_run ft [0, 1, 2] rfl rfl ?_
          refine o_nil ?_
          refine q_loop ?_
          exact k_wk (ih ((s9.1 ++ ([(at' 0 a0_b s9.2)] : List UInt8)), (wrap64 (s9.2 + 2))) (A26, c27) H) [0, 4, 5] [0, 6, 7] 8 [0] 0 rfl rfl rfl
      · intro hb10
        have H := cnd_f H hb10
        refine s_exit ?_
        refine q_then_x ?_
        refine q_then_x ?_
        refine q_block_x ?_
        exact k_wk (J6h s9.1 (y9.1, y9.2) H) [4] [0, 1, 2] 3 [0] 0 rfl rfl rfl

def meta_chunks (a0_i : Img) : Option Int :=
bnd (wrap64 ((wrap64 ((wrap64 (a0_i.Size + 320)) - 1)).tdiv 320)) fun x2 =>
some x2

theorem c_meta_chunks (a0_i : Img) (r : Int) (H : meta_chunks a0_i = some r) : Fn Tryz.prog 209 [(.agg (Img.cells a0_i).toArray)] [] [] (fun v D' G' => v = (vi r) ∧ D' = [] ∧ G' = []) := by
  unfold meta_chunks at H
  refine fn_of Tryz.func209 rfl Tryz.ntmps209 rfl ?_
  intro w0 D0 G0
  dsimp only [app, initEnv, Nat.zero_add, Nat.reduceAdd]
  refine s_seq ?_
  refine s_reg [0, 1] rfl ?_
  refine oc (k_box rfl rfl rfl (cs := Img.cells a0_i) rfl (g0 rfl) rfl rfl ?_)
  intro b1
  refine o_run ft [1] rfl rfl ?_
  refine o_nil ?_
  refine q_then ?_
  refine s_seq ?_
  refine s_reg [0, 1, 2, 3, 4, 5] rfl ?_
  refine o_run ft [0] rfl rfl ?_
  refine o_ld (hG 0 rfl) rfl (ev_ld1 (j := 1) rfl rfl Tryz.isAgg3 (Img.sub_Size _) rfl) (g0 rfl) rfl rfl ?_
  refine o_run ft [2, 3] rfl rfl ?_
  refine o_pu rfl (ev_bin rfl rfl rfl rfl (quo_i _ 320 rfl)) (g0 rfl) rfl rfl ?_
  refine o_run ft [5] rfl rfl ?_
  obtain ⟨x2, hx3⟩ : ∃ x : Int, x = (wrap64 ((wrap64 ((wrap64 (a0_i.Size + 320)) - 1)).tdiv 320)) := ⟨_, rfl⟩
  have H := bnd_eq H hx3
  refine k_eq (v' := vi x2) 2 rfl (by rw [hx3]) ?_
  refine o_nil ?_
  refine q_then ?_
  refine s_ret ?_
  cases H
  exact q_end (rs_1 Tryz.results209 (rv_tmp rfl)) ⟨rfl, rfl, rfl⟩ [] rfl 0 rfl [] rfl 1 rfl

def update_alone (a0_m : MetaS) : Option MetaS :=
(meta_Other a0_m).bind fun r3 =>
chk (0 ≤ r3 ∧ r3 < 2) <|
some ({ (a0_m : MetaS) with Have := (Arr.set a0_m.Have r3 Img.zero) })

theorem c_update_alone (a0_m : MetaS) (r : MetaS) (H : update_alone a0_m = some r) : Fn Tryz.prog 211 [(.agg (MetaS.cells a0_m).toArray)] [] [] (fun v D' G' => v = (.agg (MetaS.cells r).toArray) ∧ D' = [] ∧ G' = []) := by
  unfold update_alone at H
  refine fn_of Tryz.func211 rfl Tryz.ntmps211 rfl ?_
  intro w0 D0 G0
  dsimp only [app, initEnv, Nat.zero_add, Nat.reduceAdd]
  refine s_seq ?_
  refine s_reg [0, 1] rfl ?_
  refine oc (k_box rfl rfl rfl (cs := MetaS.cells a0_m) rfl (g0 rfl) rfl rfl ?_)
  intro b1
  refine oc (k_alloc rfl rfl Tryz.zeroValue52 (cs := MetaS.cells MetaS.zero) rfl (g0 rfl) rfl rfl ?_)
  intro b2
  refine o_nil ?_
  refine q_then ?_
  refine s_seq ?_
  refine s_reg [0, 1, 2, 3, 4, 5] rfl ?_
  refine o_ld (hG 1 rfl) rfl (ev_ldN (j := 0) rfl rfl Tryz.isAgg52 (sz (MetaS.len _) Tryz.sizeOf52) (sub_all _) rfl) (g0 rfl) rfl rfl ?_
  obtain ⟨r3, Hc4, H⟩ := bind_some' H
  refine oc (k_call (c_meta_Other a0_m r3 Hc4) Tryz.call115 rfl rfl rfl [] [] rfl rfl (g0 rfl) rfl rfl ?_)
  rintro _ _ _ ⟨rfl, rfl, rfl⟩
  dsimp only [app]
  refine o_pu rfl (ev_build (cs := Img.cells Img.zero) rfl rfl Tryz.zeroValue49 Tryz.runUnderlying49 pl49 (show Instr.fill _ (Img.cells Img.zero : List Value).toArray _ = some _ from fill_nil)) (g0 rfl) rfl rfl ?_
  refine o_run ft [3] rfl rfl ?_
  obtain ⟨hk5, H⟩ := chk_some H
  refine o_pu rfl (ev_idx_array rfl rfl rfl Tryz.runUnderlying50 Tryz.sizeOf49 hk5 rfl) (g0 rfl) rfl rfl ?_
  refine oc (k_st rfl rfl rfl rfl (vs := Img.cells Img.zero) rfl (sz (Img.len _) Tryz.sizeOf49) (Img.sc _) 1 rfl (spl_in (MetaS.sub_Have _) (spl_arr Img.len _ (k := r3) _ hk5 rfl) (MetaS.set_Have _ (Arr.set a0_m.Have r3 Img.zero)) rfl) (by first | omega | (dsimp only; omega)) (g0 rfl) rfl ?_)
  refine o_nil ?_
  refine q_then ?_
  refine s_seq ?_
  refine s_reg [0, 1] rfl ?_
  refine o_ld (hG 1 rfl) rfl (ev_ldN (j := 0) rfl rfl Tryz.isAgg52 (sz (MetaS.len _) Tryz.sizeOf52) (sub_all _) rfl) (g0 rfl) rfl rfl ?_
  refine oc (k_st (j := 0) rfl rfl rfl rfl (vs := MetaS.cells ({ (a0_m : MetaS) with Have := (Arr.set a0_m.Have r3 Img.zero) })) rfl (sz (MetaS.len _) Tryz.sizeOf52) (MetaS.sc _) 0 rfl (spl_all ((MetaS.len _).trans (MetaS.len _).symm)) rfl (g0 rfl) rfl ?_)
  refine o_nil ?_
  refine q_then ?_
  refine s_ret ?_
  cases H
  exact q_end (rs_1 Tryz.results211 (rv_cell (j := 0) rfl (hG 0 rfl) Tryz.isAgg52 (sz (MetaS.len _) Tryz.sizeOf52) (sub_all _) rfl)) ⟨rfl, rfl, rfl⟩ [] rfl 0 rfl [] rfl 2 rfl

def update_one_l0 (a1_l : List Int) (J5 : Unit → Option ChangeS) : Nat → Int → Option ChangeS
  | 0, _ => none
  | k8 + 1, s8 =>
    bif (decide (s8 < (a1_l.length : Int))) then (
    chk (0 ≤ s8 ∧ s8 < a1_l.length) <|
    bif ((at' 0 a1_l s8) != 0) then (
    (update_fails (at' 0 a1_l s8)).bind fun r14 =>
    some r14) else (
    update_one_l0 a1_l J5 k8 (wrap64 (s8 + 1)))) else (
    J5 ())

def update_one (a0_m : MetaS) (a1_l : List Int) : Option ChangeS :=
jn (fun (x6 : Unit) =>
some (⟨a0_m, RespS.zero⟩ : ChangeS)) fun J5 =>
update_one_l0 a1_l J5 Fuel 0

theorem c_update_one (a0_m : MetaS) (a1_l : List Int) (A1 : Option Addr) (c2 : Nat) (r : ChangeS) (H : update_one a0_m a1_l = some r) : Fn Tryz.prog 212 [(.agg (MetaS.cells a0_m).toArray), (.slice A1 a1_l.length c2)] [Sl Ei A1 c2 a1_l] [] (fun v D' G' => v = (.agg (ChangeS.cells r).toArray) ∧ D' = [] ∧ G' = []) := by
  unfold update_one at H
  refine fn_of Tryz.func212 rfl Tryz.ntmps212 rfl ?_
  intro w0 D0 G0
  dsimp only [app, initEnv, Nat.zero_add, Nat.reduceAdd]
  refine s_seq ?_
  refine s_reg [0, 1] rfl ?_
  refine oc (k_box rfl rfl rfl (cs := MetaS.cells a0_m) rfl (g0 rfl) rfl rfl ?_)
  intro b3
  refine oc (k_alloc rfl rfl Tryz.zeroValue170 (cs := ChangeS.cells ChangeS.zero) rfl (g0 rfl) rfl rfl ?_)
  intro b4
  refine o_nil ?_
  refine q_then ?_
  refine s_seq ?_
  refine s_seq ?_
  refine s_reg [0, 1, 2] rfl ?_
  refine o_run ft [0] rfl rfl ?_
  refine o_pu rfl (ev_len_slice rfl rfl Tryz.runUnderlying251) (g0 rfl) rfl rfl ?_
  refine o_run ft [2] rfl rfl ?_
  refine o_nil ?_
  refine q_then ?_
  refine q_join (fun (x6 : Unit) (y7 : Unit) => ⟨Sl Ei A1 c2 a1_l :: D0, At b4 0 (ChangeS.cells ChangeS.zero) :: At b3 0 (MetaS.cells a0_m) :: G0, [(2, (.pointer (some ⟨b3, 0, none⟩))), (4, (.pointer (some ⟨b4, 0, none⟩)))]⟩) H ?_ ?_
  · intro x6 y7 H
    dsimp only
    refine q_then ?_
    refine s_seq ?_
    refine s_reg [0, 1, 2] rfl ?_
    refine o_ld (hG 1 rfl) rfl (ev_ldN (j := 0) rfl rfl Tryz.isAgg52 (sz (MetaS.len _) Tryz.sizeOf52) (sub_all _) rfl) (g0 rfl) rfl rfl ?_
    refine o_pu rfl (ev_build (cs := ChangeS.cells (⟨a0_m, RespS.zero⟩ : ChangeS)) rfl rfl Tryz.zeroValue170 Tryz.runUnderlying170 pl170 (show Instr.fill _ (ChangeS.cells ChangeS.zero : List Value).toArray _ = some _ from (fill_cons rfl (s := MetaS.cells a0_m) rfl (MetaS.len _) (ChangeS.set_m _ a0_m) fill_nil))) (g0 rfl) rfl rfl ?_
    refine oc (k_st (j := 0) rfl rfl rfl rfl (vs := ChangeS.cells (⟨a0_m, RespS.zero⟩ : ChangeS)) rfl (sz (ChangeS.len _) Tryz.sizeOf170) (ChangeS.sc _) 0 rfl (spl_all ((ChangeS.len _).trans (ChangeS.len _).symm)) rfl (g0 rfl) rfl ?_)
    refine o_nil ?_
    refine q_then ?_
    refine s_ret ?_
    cases H
    exact q_end (rs_1 Tryz.results212 (rv_cell (j := 0) rfl (hG 0 rfl) Tryz.isAgg170 (sz (ChangeS.len _) Tryz.sizeOf170) (sub_all _) rfl)) ⟨rfl, rfl, rfl⟩ [] rfl 1 rfl [] rfl 2 rfl
  · intro J5 J5h H
    refine s_block ?_
    refine s_loop (k_wk (loop_ind (fun (s8 : Int) (y8 : Unit) => ⟨Sl Ei A1 c2 a1_l :: D0, At b4 0 (ChangeS.cells ChangeS.zero) :: At b3 0 (MetaS.cells a0_m) :: G0, [(2, (.pointer (some ⟨b3, 0, none⟩))), (4, (.pointer (some ⟨b4, 0, none⟩))), (7, (.slice A1 a1_l.length c2)), (8, (vi (a1_l.length : Int))), (9, (vi s8))]⟩) (update_one_l0 a1_l J5) _ (fun _ => rfl) ?_ Fuel 0 () H) [2, 4, 7, 8, 9] [0] 1 [0, 0] 0 rfl rfl rfl)
    intro k8 s8 y8 ih H
    dsimp only
    rw [update_one_l0] at H
    refine s_seq ?_
    refine s_reg [0] rfl ?_
    refine o_run ft [0] rfl rfl ?_
    refine o_nil ?_
    refine q_then ?_
    refine s_seq ?_
    refine s_cond rfl ?_ ?_
    · intro hb9
      have H := cnd_t H hb9
      refine s_skip ?_
      refine q_then ?_
      refine s_seq ?_
      refine s_block ?_
      refine s_seq ?_
      refine s_reg [0, 1, 2] rfl ?_
      obtain ⟨hk12, H⟩ := chk_some H
      refine oc (k_idx 0 0 rfl rfl rfl rfl rfl Ei_len rfl Tryz.runUnderlying251 Tryz.sizeOf31 hk12 (g0 rfl) rfl rfl ?_)
      intro b10 q11
      refine o_ld (hD 0 rfl) rfl (ev_ld1 (j := 0) rfl rfl Tryz.isAgg31 (sub_nth (j := 0) rfl) rfl) (g0 rfl) rfl rfl ?_
      refine o_run ft [2] rfl rfl ?_
      refine o_nil ?_
      refine q_then ?_
      refine s_seq ?_
      refine s_reg [0, 1] rfl ?_
      refine o_run ft [0, 1] rfl rfl ?_
      refine o_nil ?_
      refine q_then ?_
      refine s_cond rfl ?_ ?_
      · intro hb13
        have H := cnd_t H hb13
        refine s_seq ?_
        refine s_reg [0, 1, 2] rfl ?_
        refine o_run ft [0] rfl rfl ?_
        obtain ⟨r14, Hc15, H⟩ := bind_some' H
        refine oc (k_call (c_update_fails (at' 0 a1_l s8) r14 Hc15) Tryz.call184 rfl rfl rfl [] [] rfl rfl (g0 rfl) rfl rfl ?_)
        rintro _ _ _ ⟨rfl, rfl, rfl⟩
        dsimp only [app]
        refine oc (k_st (j := 0) rfl rfl rfl rfl (vs := ChangeS.cells r14) rfl (sz (ChangeS.len _) Tryz.sizeOf170) (ChangeS.sc _) 0 rfl (spl_all ((ChangeS.len _).trans (ChangeS.len _).symm)) rfl (g0 rfl) rfl ?_)
        refine o_nil ?_
        refine q_then ?_
        refine s_ret ?_
        refine q_block_r ?_
        refine q_then_r ?_
        refine q_then_r ?_
        refine q_block_r ?_
        refine q_then_r ?_
        cases H
        exact q_end (rs_1 Tryz.results212 (rv_cell (j := 0) rfl (hG 0 rfl) Tryz.isAgg170 (sz (ChangeS.len _) Tryz.sizeOf170) (sub_all _) rfl)) ⟨rfl, rfl, rfl⟩ [] rfl 2 rfl [] rfl 2 rfl
      · intro hb13
        have H := cnd_f H hb13
        refine s_skip ?_
        refine q_block ?_
        refine q_then ?_
        refine s_reg [0, 1] rfl ?_
        refine o_run ft [0, 1] rfl rfl ?_
        refine o_nil ?_
        refine q_loop ?_
        exact k_wk (ih (wrap64 (s8 + 1)) () H) [2, 4, 7, 8, 9] [1] 2 [0, 0] 0 rfl rfl rfl
    · intro hb9
      have H := cnd_f H hb9
      refine s_exit ?_
      refine q_then_x ?_
      refine q_then_x ?_
      refine q_block_x ?_
      exact k_wk (J5h () () H) [2, 4] [0] 1 [0, 0] 0 rfl rfl rfl

def update_when (a0_is : Bool) (a1_e : Int) : Option Int :=
bif a0_is then (
some a1_e) else (
some 0)

theorem c_update_when (a0_is : Bool) (a1_e : Int) (r : Int) (H : update_when a0_is a1_e = some r) : Fn Tryz.prog 213 [(vb a0_is), (vi a1_e)] [] [] (fun v D' G' => v = (vi r) ∧ D' = [] ∧ G' = []) := by
  unfold update_when at H
  refine fn_of Tryz.func213 rfl Tryz.ntmps213 rfl ?_
  intro w0 D0 G0
  dsimp only [app, initEnv, Nat.zero_add, Nat.reduceAdd]
  refine s_seq ?_
  refine s_reg [0] rfl ?_
  refine o_run ft [0] rfl rfl ?_
  refine o_nil ?_
  refine q_then ?_
  refine s_seq ?_
  refine s_seq ?_
  refine s_reg [0] rfl ?_
  refine o_run ft [0] rfl rfl ?_
  refine o_nil ?_
  refine q_then ?_
  refine s_cond rfl ?_ ?_
  · intro hb1
    have H := cnd_t H hb1
    refine s_seq ?_
    refine s_reg [0, 1] rfl ?_
    refine o_run ft [0, 1] rfl rfl ?_
    refine o_nil ?_
    refine q_then ?_
    refine s_ret ?_
    refine q_then_r ?_
    cases H
    exact q_end (rs_1 Tryz.results213 (rv_tmp rfl)) ⟨rfl, rfl, rfl⟩ [] rfl 0 rfl [] rfl 0 rfl
  · intro hb1
    have H := cnd_f H hb1
    refine s_skip ?_
    refine q_then ?_
    refine s_seq ?_
    refine s_reg [0] rfl ?_
    refine o_run ft [0] rfl rfl ?_
    refine o_nil ?_
    refine q_then ?_
    refine s_ret ?_
    cases H
    exact q_end (rs_1 Tryz.results213 (rv_tmp rfl)) ⟨rfl, rfl, rfl⟩ [] rfl 0 rfl [] rfl 0 rfl

def version_May (a0_m : MetaS) (a1_v : Int) : Option Bool :=
bnd (decide (a1_v ≥ 1)) fun b2 =>
jn (fun x5 =>
bnd x5 fun b6 =>
jn (fun x9 =>
some x9) fun J8 =>
bif b6 then (
J8 (decide (a1_v ≥ a0_m.Min))) else
J8 false) fun J4 =>
bif b2 then (
J4 (decide (a1_v ≤ 1073741824))) else
J4 false

theorem c_version_May (a0_m : MetaS) (a1_v : Int) (r : Bool) (H : version_May a0_m a1_v = some r) : Fn Tryz.prog 214 [(.agg (MetaS.cells a0_m).toArray), (vi a1_v)] [] [] (fun v D' G' => v = (vb r) ∧ D' = [] ∧ G' = []) := by
  unfold version_May at H
  refine fn_of Tryz.func214 rfl Tryz.ntmps214 rfl ?_
  intro w0 D0 G0
  dsimp only [app, initEnv, Nat.zero_add, Nat.reduceAdd]
  refine s_seq ?_
  refine s_reg [0, 1] rfl ?_
  refine oc (k_box rfl rfl rfl (cs := MetaS.cells a0_m) rfl (g0 rfl) rfl rfl ?_)
  intro b1
  refine o_run ft [1] rfl rfl ?_
  refine o_nil ?_
  refine q_then ?_
  refine s_seq ?_
  refine s_reg [0, 1, 2, 3, 4, 5, 6, 7, 8, 9, 10, 11, 12] rfl ?_
  refine o_run ft [0, 1, 2] rfl rfl ?_
  refine k_name 7 rfl ?_
  intro b2 hb3
  have H := bnd_eq H hb3
  refine o_jb 10 [6, 7, 8, 9, 10, 11, 12] [0, 1, 2, 4, 5, 6, 7] H rfl ?_ ?_
  · intro x5 H
    refine o_run ft [6] rfl rfl ?_
    refine k_name 11 rfl ?_
    intro b6 hb7
    have H := bnd_eq H hb7
    refine o_jb 16 [12] [0, 1, 2, 4, 5, 6, 7, 10, 11] H rfl ?_ ?_
    · intro x9 H
      refine o_run ft [12] rfl rfl ?_
      refine o_nil ?_
      refine q_then ?_
      refine s_ret ?_
      cases H
      exact q_end (rs_1 Tryz.results214 (rv_tmp rfl)) ⟨rfl, rfl, rfl⟩ [] rfl 0 rfl [] rfl 1 rfl
    · intro J8 J8h H
      cases b6 with
      | true =>
        rw [cond_true] at H
        refine o_run ft [7, 8] rfl rfl ?_
        refine o_ld (hG 0 rfl) rfl (ev_ld1 (j := 69) rfl rfl Tryz.isAgg3 (MetaS.sub_Min _) rfl) (g1 rfl rfl rfl rfl) rfl rfl ?_
        refine o_run ft [10, 11] rfl rfl ?_
        exact k_wk (J8h (decide (a1_v ≥ a0_m.Min)) H) [16, 0, 1, 2, 4, 5, 6, 7, 10, 11] [] 0 [0] 0 rfl rfl rfl
      | false =>
        rw [cond_false] at H
        refine o_gnot rfl rfl rfl rfl rfl rfl rfl rfl ?_
        refine o_gnot rfl rfl rfl rfl rfl rfl rfl rfl ?_
        refine o_gnot rfl rfl rfl rfl rfl rfl rfl rfl ?_
        refine o_gnot rfl rfl rfl rfl rfl rfl rfl rfl ?_
        refine o_run ft [11] rfl rfl ?_
        exact k_wk (J8h false H) [16, 0, 1, 2, 4, 5, 6, 7, 10, 11] [] 0 [0] 0 rfl rfl rfl
  · intro J4 J4h H
    cases b2 with
    | true =>
      rw [cond_true] at H
      refine o_run ft [3, 4, 5] rfl rfl ?_
      exact k_wk (J4h (decide (a1_v ≤ 1073741824)) H) [10, 0, 1, 2, 4, 5, 6, 7] [] 0 [0] 0 rfl rfl rfl
    | false =>
      rw [cond_false] at H
      refine o_gnot rfl rfl rfl rfl rfl rfl rfl rfl ?_
      refine o_gnot rfl rfl rfl rfl rfl rfl rfl rfl ?_
      refine o_run ft [5] rfl rfl ?_
      exact k_wk (J4h false H) [10, 0, 1, 2, 4, 5, 6, 7] [] 0 [0] 0 rfl rfl rfl

def update_idle (a0_m : MetaS) : Option MetaS :=
bnd ({ ({ ({ ({ (a0_m : MetaS) with Phase := 0 } : MetaS) with Coming := Img.zero } : MetaS) with Got := 0 } : MetaS) with Trials := 0 }) fun x3 =>
some x3

theorem c_update_idle (a0_m : MetaS) (r : MetaS) (H : update_idle a0_m = some r) : Fn Tryz.prog 215 [(.agg (MetaS.cells a0_m).toArray)] [] [] (fun v D' G' => v = (.agg (MetaS.cells r).toArray) ∧ D' = [] ∧ G' = []) := by
  unfold update_idle at H
  refine fn_of Tryz.func215 rfl Tryz.ntmps215 rfl ?_
  intro w0 D0 G0
  dsimp only [app, initEnv, Nat.zero_add, Nat.reduceAdd]
  refine s_seq ?_
  refine s_reg [0, 1] rfl ?_
  refine oc (k_box rfl rfl rfl (cs := MetaS.cells a0_m) rfl (g0 rfl) rfl rfl ?_)
  intro b1
  refine oc (k_alloc rfl rfl Tryz.zeroValue52 (cs := MetaS.cells MetaS.zero) rfl (g0 rfl) rfl rfl ?_)
  intro b2
  refine o_nil ?_
  refine q_then ?_
  refine s_seq ?_
  refine s_reg [0, 1, 2, 3, 4, 5, 6, 7, 8] rfl ?_
  refine o_pu rfl (ev_build (cs := Img.cells Img.zero) rfl rfl Tryz.zeroValue49 Tryz.runUnderlying49 pl49 (show Instr.fill _ (Img.cells Img.zero : List Value).toArray _ = some _ from fill_nil)) (g0 rfl) rfl rfl ?_
  refine o_run ft [1] rfl rfl ?_
  refine oc (k_st (j := 70) rfl rfl rfl rfl (vs := [vi 0]) rfl (sz rfl Tryz.sizeOf3) rfl 1 rfl (MetaS.set_Phase _ 0) rfl (g0 rfl) rfl ?_)
  refine o_run ft [3] rfl rfl ?_
  refine oc (k_st (j := 71) rfl rfl rfl rfl (vs := Img.cells Img.zero) rfl (sz (Img.len _) Tryz.sizeOf49) (Img.sc _) 1 rfl (MetaS.set_Coming _ Img.zero) rfl (g0 rfl) rfl ?_)
  refine o_run ft [5] rfl rfl ?_
  refine oc (k_st (j := 105) rfl rfl rfl rfl (vs := [vi 0]) rfl (sz rfl Tryz.sizeOf3) rfl 1 rfl (MetaS.set_Got _ 0) rfl (g0 rfl) rfl ?_)
  refine o_run ft [7] rfl rfl ?_
  refine oc (k_st (j := 106) rfl rfl rfl rfl (vs := [vi 0]) rfl (sz rfl Tryz.sizeOf3) rfl 1 rfl (MetaS.set_Trials _ 0) rfl (g0 rfl) rfl ?_)
  obtain ⟨x3, hx4⟩ : ∃ x, x = ({ ({ ({ ({ (a0_m : MetaS) with Phase := 0 } : MetaS) with Coming := Img.zero } : MetaS) with Got := 0 } : MetaS) with Trials := 0 }) := ⟨_, rfl⟩
  have H := bnd_eq H hx4
  refine k_tok 1 (A' := At b1 0 (MetaS.cells x3)) rfl (by rw [hx4]) ?_
  refine o_nil ?_
  refine q_then ?_
  refine s_seq ?_
  refine s_reg [0, 1] rfl ?_
  refine o_ld (hG 1 rfl) rfl (ev_ldN (j := 0) rfl rfl Tryz.isAgg52 (sz (MetaS.len _) Tryz.sizeOf52) (sub_all _) rfl) (g0 rfl) rfl rfl ?_
  refine oc (k_st (j := 0) rfl rfl rfl rfl (vs := MetaS.cells x3) rfl (sz (MetaS.len _) Tryz.sizeOf52) (MetaS.sc _) 0 rfl (spl_all ((MetaS.len _).trans (MetaS.len _).symm)) rfl (g0 rfl) rfl ?_)
  refine o_nil ?_
  refine q_then ?_
  refine s_ret ?_
  cases H
  exact q_end (rs_1 Tryz.results215 (rv_cell (j := 0) rfl (hG 0 rfl) Tryz.isAgg52 (sz (MetaS.len _) Tryz.sizeOf52) (sub_all _) rfl)) ⟨rfl, rfl, rfl⟩ [] rfl 0 rfl [] rfl 2 rfl

def version_Confirm (a0_m : MetaS) : Option Int :=
jn (fun (x4 : Int) =>
chk (0 ≤ x4 ∧ x4 < 2) <|
bif (decide ((at' Img.zero a0_m.Have.l x4).Version ≤ 0)) then (
some a0_m.Min) else (
bnd (if a0_m.Min < (at' Img.zero a0_m.Have.l x4).Version then (at' Img.zero a0_m.Have.l x4).Version else a0_m.Min) fun x8 =>
some x8)) fun J3 =>
bif (a0_m.Active != 0) then (
J3 0) else (
J3 1)

theorem c_version_Confirm (a0_m : MetaS) (r : Int) (H : version_Confirm a0_m = some r) : Fn Tryz.prog 216 [(.agg (MetaS.cells a0_m).toArray)] [] [] (fun v D' G' => v = (vi r) ∧ D' = [] ∧ G' = []) := by
  unfold version_Confirm at H
  refine fn_of Tryz.func216 rfl Tryz.ntmps216 rfl ?_
  intro w0 D0 G0
  dsimp only [app, initEnv, Nat.zero_add, Nat.reduceAdd]
  refine s_seq ?_
  refine s_reg [0, 1] rfl ?_
  refine oc (k_box rfl rfl rfl (cs := MetaS.cells a0_m) rfl (g0 rfl) rfl rfl ?_)
  intro b1
  refine o_run ft [1] rfl rfl ?_
  refine o_nil ?_
  refine q_then ?_
  refine s_seq ?_
  refine s_reg [0] rfl ?_
  refine o_run ft [0] rfl rfl ?_
  refine o_nil ?_
  refine q_then ?_
  refine s_seq ?_
  refine s_seq ?_
  refine s_reg [0, 1, 2] rfl ?_
  refine o_run ft [0] rfl rfl ?_
  refine o_ld (hG 0 rfl) rfl (ev_ld1 (j := 0) rfl rfl Tryz.isAgg3 (MetaS.sub_Active _) rfl) (g0 rfl) rfl rfl ?_
  refine o_run ft [2] rfl rfl ?_
  refine o_nil ?_
  refine q_then ?_
  refine q_join (fun (x4 : Int) (y5 : Unit) => ⟨D0, At b1 0 (MetaS.cells a0_m) :: G0, [(1, (.pointer (some ⟨b1, 0, none⟩))), (3, (vi x4))]⟩) H ?_ ?_
  · intro x4 y5 H
    dsimp only
    refine q_then ?_
    refine s_seq ?_
    refine s_reg [0, 1, 2, 3, 4, 5] rfl ?_
    refine o_run ft [0, 1] rfl rfl ?_
    obtain ⟨hk6, H⟩ := chk_some H
    refine o_pu rfl (ev_idx_array rfl rfl rfl Tryz.runUnderlying50 Tryz.sizeOf49 hk6 rfl) (g0 rfl) rfl rfl ?_
    refine o_run ft [3] rfl rfl ?_
    refine o_ld (hG 0 rfl) rfl (ev_ld1 rfl rfl Tryz.isAgg3 (sub_sub (MetaS.sub_Have _) (sub_sub (sub_arr Img.len Img.zero _ (k := x4) hk6 rfl) (Img.sub_Version _) rfl) rfl) (by first | omega | (dsimp only; omega))) (g0 rfl) rfl rfl ?_
    refine o_run ft [5] rfl rfl ?_
    refine o_nil ?_
    refine q_then ?_
    refine s_seq ?_
    refine s_seq ?_
    refine s_reg [0, 1] rfl ?_
    refine o_run ft [0, 1] rfl rfl ?_
    refine o_nil ?_
    refine q_then ?_
    refine s_cond rfl ?_ ?_
    · intro hb7
      have H := cnd_t H hb7
      refine s_seq ?_
      refine s_reg [0, 1, 2] rfl ?_
      refine o_run ft [0] rfl rfl ?_
      refine o_ld (hG 0 rfl) rfl (ev_ld1 (j := 69) rfl rfl Tryz.isAgg3 (MetaS.sub_Min _) rfl) (g0 rfl) rfl rfl ?_
      refine o_run ft [2] rfl rfl ?_
      refine o_nil ?_
      refine q_then ?_
      refine s_ret ?_
      refine q_then_r ?_
      cases H
      exact q_end (rs_1 Tryz.results216 (rv_tmp rfl)) ⟨rfl, rfl, rfl⟩ [] rfl 0 rfl [] rfl 1 rfl
    · intro hb7
      have H := cnd_f H hb7
      refine s_skip ?_
      refine q_then ?_
      refine s_seq ?_
      refine s_reg [0, 1, 2, 3, 4] rfl ?_
      refine o_run ft [0] rfl rfl ?_
      refine o_ld (hG 0 rfl) rfl (ev_ld1 (j := 69) rfl rfl Tryz.isAgg3 (MetaS.sub_Min _) rfl) (g0 rfl) rfl rfl ?_
      refine o_run ft [2] rfl rfl ?_
      refine o_pu rfl (ev_max rfl rfl rfl) (g0 rfl) rfl rfl ?_
      obtain ⟨x8, hx9⟩ : ∃ x : Int, x = (if a0_m.Min < (at' Img.zero a0_m.Have.l x4).Version then (at' Img.zero a0_m.Have.l x4).Version else a0_m.Min) := ⟨_, rfl⟩
      have H := bnd_eq H hx9
      refine k_eq (v' := vi x8) 20 rfl (by rw [hx9]) ?_
      refine o_run ft [4] rfl rfl ?_
      refine o_nil ?_
      refine q_then ?_
      refine s_ret ?_
      cases H
      exact q_end (rs_1 Tryz.results216 (rv_tmp rfl)) ⟨rfl, rfl, rfl⟩ [] rfl 0 rfl [] rfl 1 rfl
  · intro J3 J3h H
    refine s_cond rfl ?_ ?_
    · intro hb10
      have H := cnd_t H hb10
      refine s_reg [0] rfl ?_
      refine o_run ft [0] rfl rfl ?_
      refine o_nil ?_
      exact k_wk (J3h 0 () H) [1, 3] [] 0 [0] 0 rfl rfl rfl
    · intro hb10
      have H := cnd_f H hb10
      refine s_skip ?_
      exact k_wk (J3h 1 () H) [1, 3] [] 0 [0] 0 rfl rfl rfl

def strings_trimRightByte_l0 (a1_c : UInt8) (J1 : (List UInt8) → Option (List UInt8)) : Nat → (List UInt8) → Option (List UInt8)
  | 0, _ => none
  | k4 + 1, s4 =>
    bnd (decide ((s4.length : Int) > 0)) fun b5 =>
    jn (fun x8 =>
    bif x8 then (
    chk (0 ≤ (0 : Int) ∧ (0 : Int) ≤ (wrap64 ((s4.length : Int) - 1)) ∧ (wrap64 ((s4.length : Int) - 1)) ≤ s4.length) <|
    strings_trimRightByte_l0 a1_c J1 k4 (slc s4 (0 : Int) (wrap64 ((s4.length : Int) - 1)))) else (
    J1 s4)) fun J7 =>
    bif b5 then (
    chk (0 ≤ (wrap64 ((s4.length : Int) - 1)) ∧ (wrap64 ((s4.length : Int) - 1)) < s4.length) <|
    J7 (((at' 0 s4 (wrap64 ((s4.length : Int) - 1))) : UInt8) == (a1_c : UInt8))) else
    J7 false

def strings_trimRightByte (a0_s : List UInt8) (a1_c : UInt8) : Option (List UInt8) :=
jn (fun (x2 : List UInt8) =>
some x2) fun J1 =>
strings_trimRightByte_l0 a1_c J1 Fuel a0_s

theorem c_strings_trimRightByte (a0_s : List UInt8) (a1_c : UInt8) (r : (List UInt8)) (H : strings_trimRightByte a0_s a1_c = some r) : Fn Tryz.prog 217 [(vs a0_s), (v8 a1_c)] [] [] (fun v D' G' => v = (vs r) ∧ D' = [] ∧ G' = []) := by
  unfold strings_trimRightByte at H
  refine fn_of Tryz.func217 rfl Tryz.ntmps217 rfl ?_
  intro w0 D0 G0
  dsimp only [app, initEnv, Nat.zero_add, Nat.reduceAdd]
  refine s_seq ?_
  refine s_reg [0] rfl ?_
  refine o_run ft [0] rfl rfl ?_
  refine o_nil ?_
  refine q_then ?_
  refine s_seq ?_
  refine q_join (fun (x2 : List UInt8) (y3 : Unit) => ⟨D0, G0, [(0, (vs x2))]⟩) H ?_ ?_
  · intro x2 y3 H
    dsimp only
    refine q_then ?_
    refine s_seq ?_
    refine s_reg [0, 1] rfl ?_
    refine o_run ft [0, 1] rfl rfl ?_
    refine o_nil ?_
    refine q_then ?_
    refine s_ret ?_
    cases H
    exact q_end (rs_1 Tryz.results217 (rv_tmp rfl)) ⟨rfl, rfl, rfl⟩ [] rfl 0 rfl [] rfl 0 rfl
  · intro J1 J1h H
    refine s_block ?_
    refine s_loop (k_wk (loop_ind (fun (s4 : List UInt8) (y4 : Unit) => ⟨D0, G0, [(0, (vs s4)), (1, (v8 a1_c))]⟩) (strings_trimRightByte_l0 a1_c J1) _ (fun _ => rfl) ?_ Fuel a0_s () H) [0, 1] [] 0 [] 0 rfl rfl rfl)
    intro k4 s4 y4 ih H
    dsimp only
    rw [strings_trimRightByte_l0] at H
    refine s_seq ?_
    refine s_seq ?_
    refine s_reg [0, 1, 2, 3, 4, 5, 6, 7, 8, 9, 10, 11] rfl ?_
    refine o_run ft [0] rfl rfl ?_
    refine o_pu rfl (ev_len_string rfl rfl Tryz.runUnderlying9) (g0 rfl) rfl rfl ?_
    refine o_run ft [2, 3] rfl rfl ?_
    refine k_name 8 rfl ?_
    intro b5 hb6
    have H := bnd_eq H hb6
    refine o_jb 16 [] [0, 1, 5, 6, 7, 8] H rfl ?_ ?_
    · intro x8 H
      refine o_nil ?_
      refine q_then ?_
      refine s_cond rfl ?_ ?_
      · intro hb9
        have H := cnd_t H hb9
        refine s_skip ?_
        refine q_then ?_
        refine s_block ?_
        refine s_reg [0, 1, 2, 3, 4, 5] rfl ?_
        refine o_run ft [0, 1] rfl rfl ?_
        refine o_pu rfl (ev_len_string rfl rfl Tryz.runUnderlying9) (g0 rfl) rfl rfl ?_
        refine o_run ft [3] rfl rfl ?_
        obtain ⟨hk10, H⟩ := chk_some H
        refine o_pu rfl (ev_slice_string (ka := .i64) (a := (0 : Int)) (b := (wrap64 ((s4.length : Int) - 1))) rfl rfl Tryz.runUnderlying9 (.inl ⟨rfl, rfl⟩) (.inr rfl) hk10) (g0 rfl) rfl rfl ?_
        refine o_run ft [5] rfl rfl ?_
        refine o_nil ?_
        refine q_block ?_
        refine q_loop ?_
        exact k_wk (ih (slc s4 (0 : Int) (wrap64 ((s4.length : Int) - 1))) () H) [0, 1] [] 0 [] 0 rfl rfl rfl
      · intro hb9
        have H := cnd_f H hb9
        refine s_exit ?_
        refine q_then_x ?_
        refine q_then_x ?_
        refine q_block_x ?_
        exact k_wk (J1h s4 () H) [0] [] 0 [] 0 rfl rfl rfl
    · intro J7 J7h H
      cases b5 with
      | true =>
        rw [cond_true] at H
        refine o_run ft [4, 5] rfl rfl ?_
        refine o_pu rfl (ev_len_string rfl rfl Tryz.runUnderlying9) (g1 rfl rfl rfl rfl) rfl rfl ?_
        refine o_run ft [7] rfl rfl ?_
        obtain ⟨hk11, H⟩ := chk_some H
        refine o_pu rfl (ev_index_string rfl rfl rfl Tryz.runUnderlying9 hk11) (g1 rfl rfl rfl rfl) rfl rfl ?_
        refine o_run ft [9] rfl rfl ?_
        refine o_pu rfl (ev_bin rfl rfl rfl rfl (eql_8 _ _)) (g1 rfl rfl rfl rfl) rfl rfl ?_
        refine o_run ft [11] rfl rfl ?_
        exact k_wk (J7h (((at' 0 s4 (wrap64 ((s4.length : Int) - 1))) : UInt8) == (a1_c : UInt8)) H) [16, 0, 1, 5, 6, 7, 8] [] 0 [] 0 rfl rfl rfl
      | false =>
        rw [cond_false] at H
        refine o_gnot rfl rfl rfl rfl rfl rfl rfl rfl ?_
        refine o_gnot rfl rfl rfl rfl rfl rfl rfl rfl ?_
        refine o_gnot rfl rfl rfl rfl rfl rfl rfl rfl ?_
        refine o_gnot rfl rfl rfl rfl rfl rfl rfl rfl ?_
        refine o_gnot rfl rfl rfl rfl rfl rfl rfl rfl ?_
        refine o_gnot rfl rfl rfl rfl rfl rfl rfl rfl ?_
        refine o_gnot rfl rfl rfl rfl rfl rfl rfl rfl ?_
        refine o_run ft [11] rfl rfl ?_
        exact k_wk (J7h false H) [16, 0, 1, 5, 6, 7, 8] [] 0 [] 0 rfl rfl rfl

def strings_makeASCIISet_l0 (a0_chars : List UInt8) (J2 : (Arr Bool 256) → Option ((Arr Bool 256) × Bool)) : Nat → (Int × Arr Bool 256) → Option ((Arr Bool 256) × Bool)
  | 0, _ => none
  | k5 + 1, s5 =>
    bif (decide (s5.1 < (a0_chars.length : Int))) then (
    chk (0 ≤ s5.1 ∧ s5.1 < a0_chars.length) <|
    bif (decide ((128 : UInt8) ≤ ((at' 0 a0_chars s5.1) : UInt8))) then (
    some (s5.2, false)) else (
    chk (0 ≤ ((at' 0 a0_chars s5.1).toNat : Int) ∧ ((at' 0 a0_chars s5.1).toNat : Int) < 256) <|
    strings_makeASCIISet_l0 a0_chars J2 k5 ((wrap64 (s5.1 + 1)), (Arr.set s5.2 ((at' 0 a0_chars s5.1).toNat : Int) true)))) else (
    J2 s5.2)

def strings_makeASCIISet (a0_chars : List UInt8) : Option ((Arr Bool 256) × Bool) :=
jn (fun (x3 : Arr Bool 256) =>
some (x3, true)) fun J2 =>
strings_makeASCIISet_l0 a0_chars J2 Fuel (0, (Arr.zero false 256 : Arr Bool 256))

theorem c_strings_makeASCIISet (a0_chars : List UInt8) (r : (Arr Bool 256) × Bool) (H : strings_makeASCIISet a0_chars = some r) : Fn Tryz.prog 218 [(vs a0_chars)] [] [] (fun v D' G' => v = (.tuple #[(.agg (r.1.l.flatMap Eb).toArray), (vb r.2)]) ∧ D' = [] ∧ G' = []) := by
  unfold strings_makeASCIISet at H
  refine fn_of Tryz.func218 rfl Tryz.ntmps218 rfl ?_
  intro w0 D0 G0
  dsimp only [app, initEnv, Nat.zero_add, Nat.reduceAdd]
  refine s_seq ?_
  refine s_reg [0, 1] rfl ?_
  refine oc (k_alloc rfl rfl Tryz.zeroValue244 (cs := (Arr.zero false 256 : Arr Bool 256).l.flatMap Eb) rfl (g0 rfl) rfl rfl ?_)
  intro b1
  refine o_run ft [1] rfl rfl ?_
  refine o_nil ?_
  refine q_then ?_
  refine s_seq ?_
  refine s_seq ?_
  refine s_reg [0] rfl ?_
  refine o_run ft [0] rfl rfl ?_
  refine o_nil ?_
  refine q_then ?_
  refine q_join (fun (x3 : Arr Bool 256) (y4 : Unit) => ⟨D0, At b1 0 (x3.l.flatMap Eb) :: G0, [(2, (.pointer (some ⟨b1, 0, none⟩)))]⟩) H ?_ ?_
  · intro x3 y4 H
    dsimp only
    refine q_then ?_
    refine s_seq ?_
    refine s_reg [0, 1, 2] rfl ?_
    refine o_ld (hG 0 rfl) rfl (ev_ldN (j := 0) rfl rfl Tryz.isAgg244 (sz (arr_len Eb_len _ rfl) Tryz.sizeOf244) (sub_all _) rfl) (g0 rfl) rfl rfl ?_
    refine oc (k_st (j := 0) rfl rfl rfl rfl (vs := x3.l.flatMap Eb) rfl (sz (arr_len Eb_len _ rfl) Tryz.sizeOf244) (arr_sc Eb_one _) 0 rfl (spl_all ((arr_len Eb_len _ rfl).trans (arr_len Eb_len _ rfl).symm)) rfl (g0 rfl) rfl ?_)
    refine o_run ft [2] rfl rfl ?_
    refine o_nil ?_
    refine q_then ?_
    refine s_ret ?_
    cases H
    exact q_end (rs_2 Tryz.results218 (rv_cell (j := 0) rfl (hG 0 rfl) Tryz.isAgg244 (sz (arr_len Eb_len _ rfl) Tryz.sizeOf244) (sub_all _) rfl) (rv_tmp rfl)) ⟨rfl, rfl, rfl⟩ [] rfl 0 rfl [] rfl 1 rfl
  · intro J2 J2h H
    refine s_block ?_
    refine s_loop (k_wk (loop_ind (fun (s5 : Int × Arr Bool 256) (y5 : Unit) => ⟨D0, At b1 0 (s5.2.l.flatMap Eb) :: G0, [(0, (vs a0_chars)), (2, (.pointer (some ⟨b1, 0, none⟩))), (4, (vi s5.1))]⟩) (strings_makeASCIISet_l0 a0_chars J2) _ (fun _ => rfl) ?_ Fuel (0, (Arr.zero false 256 : Arr Bool 256)) () H) [0, 2, 4] [] 0 [0] 0 rfl rfl rfl)
    intro k5 s5 y5 ih H
    dsimp only
    rw [strings_makeASCIISet_l0] at H
    refine s_seq ?_
    refine s_seq ?_
    refine s_reg [0, 1, 2, 3] rfl ?_
    refine o_run ft [0, 1] rfl rfl ?_
    refine o_pu rfl (ev_len_string rfl rfl Tryz.runUnderlying9) (g0 rfl) rfl rfl ?_
    refine o_run ft [3] rfl rfl ?_
    refine o_nil ?_
    refine q_then ?_
    refine s_cond rfl ?_ ?_
    · intro hb6
      have H := cnd_t H hb6
      refine s_skip ?_
      refine q_then ?_
      refine s_seq ?_
      refine s_block ?_
      refine s_seq ?_
      refine s_reg [0, 1, 2, 3] rfl ?_
      refine o_run ft [0, 1] rfl rfl ?_
      obtain ⟨hk7, H⟩ := chk_some H
      refine o_pu rfl (ev_index_string rfl rfl rfl Tryz.runUnderlying9 hk7) (g0 rfl) rfl rfl ?_
      refine o_run ft [3] rfl rfl ?_
      refine o_nil ?_
      refine q_then ?_
      refine s_seq ?_
      refine s_seq ?_
      refine s_reg [0, 1] rfl ?_
      refine o_run ft [0] rfl rfl ?_
      refine o_pu rfl (ev_bin rfl rfl rfl rfl (geq_8 _ 128)) (g0 rfl) rfl rfl ?_
      refine o_nil ?_
      refine q_then ?_
      refine s_cond rfl ?_ ?_
      · intro hb8
        have H := cnd_t H hb8
        refine s_seq ?_
        refine s_reg [0, 1, 2] rfl ?_
        refine o_ld (hG 0 rfl) rfl (ev_ldN (j := 0) rfl rfl Tryz.isAgg244 (sz (arr_len Eb_len _ rfl) Tryz.sizeOf244) (sub_all _) rfl) (g0 rfl) rfl rfl ?_
        refine oc (k_st (j := 0) rfl rfl rfl rfl (vs := s5.2.l.flatMap Eb) rfl (sz (arr_len Eb_len _ rfl) Tryz.sizeOf244) (arr_sc Eb_one _) 0 rfl (spl_all ((arr_len Eb_len _ rfl).trans (arr_len Eb_len _ rfl).symm)) rfl (g0 rfl) rfl ?_)
        refine o_run ft [2] rfl rfl ?_
        refine o_nil ?_
        refine q_then ?_
        refine s_ret ?_
        refine q_then_r ?_
        refine q_block_r ?_
        refine q_then_r ?_
        refine q_then_r ?_
        refine q_block_r ?_
        refine q_then_r ?_
        cases H
        exact q_end (rs_2 Tryz.results218 (rv_cell (j := 0) rfl (hG 0 rfl) Tryz.isAgg244 (sz (arr_len Eb_len _ rfl) Tryz.sizeOf244) (sub_all _) rfl) (rv_tmp rfl)) ⟨rfl, rfl, rfl⟩ [] rfl 0 rfl [] rfl 1 rfl
      · intro hb8
        have H := cnd_f H hb8
        refine s_skip ?_
        refine q_then ?_
        refine s_reg [0, 1, 2] rfl ?_
        refine o_run ft [0] rfl rfl ?_
        obtain ⟨hk9, H⟩ := chk_some H
        refine o_pu rfl (ev_idx_array rfl rfl rfl Tryz.runUnderlying244 Tryz.sizeOf4 hk9 rfl) (g0 rfl) rfl rfl ?_
        refine oc (k_st rfl rfl rfl rfl (vs := [vb true]) rfl (sz rfl Tryz.sizeOf4) rfl 0 rfl (spl_arr Eb_len _ (k := ((at' 0 a0_chars s5.1).toNat : Int)) _ hk9 rfl) (by omega) (g0 rfl) rfl ?_)
        refine o_nil ?_
        refine q_block ?_
        refine q_then ?_
        refine s_reg [0, 1, 2] rfl ?_
        refine o_run ft [0, 1, 2] rfl rfl ?_
        refine o_nil ?_
        refine q_loop ?_
        exact k_wk (ih ((wrap64 (s5.1 + 1)), (Arr.set s5.2 ((at' 0 a0_chars s5.1).toNat : Int) true)) () H) [0, 2, 4] [] 0 [0] 0 rfl rfl rfl
    · intro hb6
      have H := cnd_f H hb6
      refine s_exit ?_
      refine q_then_x ?_
      refine q_then_x ?_
      refine q_block_x ?_
      exact k_wk (J2h s5.2 () H) [2] [] 0 [0] 0 rfl rfl rfl

def turn_Big_l0 (a0_b : List UInt8) (J3 : UInt32 → Option UInt32) : Nat → (UInt32 × Int) → Option UInt32
  | 0, _ => none
  | k6 + 1, s6 =>
    bif (decide (s6.2 < 4)) then (
    jn (fun (x10 : UInt32) =>
    turn_Big_l0 a0_b J3 k6 (x10, (wrap64 (s6.2 + 1)))) fun J9 =>
    bif (decide (s6.2 < (a0_b.length : Int))) then (
    chk (0 ≤ s6.2 ∧ s6.2 < a0_b.length) <|
    J9 ((shl32 (s6.1 : UInt32) (8 : UInt64).toNat) ||| (at' 0 a0_b s6.2).toUInt32)) else (
    J9 (shl32 (s6.1 : UInt32) (8 : UInt64).toNat))) else (
    J3 s6.1)

def turn_Big (a0_b : List UInt8) : Option UInt32 :=
jn (fun (x4 : UInt32) =>
some x4) fun J3 =>
turn_Big_l0 a0_b J3 Fuel (0, 0)

theorem c_turn_Big (a0_b : List UInt8) (A1 : Option Addr) (c2 : Nat) (r : UInt32) (H : turn_Big a0_b = some r) : Fn Tryz.prog 224 [(.slice A1 a0_b.length c2)] [Sl E8 A1 c2 a0_b] [] (fun v D' G' => v = (v32 r) ∧ D' = [] ∧ G' = []) := by
  unfold turn_Big at H
  refine fn_of Tryz.func224 rfl Tryz.ntmps224 rfl ?_
  intro w0 D0 G0
  dsimp only [app, initEnv, Nat.zero_add, Nat.reduceAdd]
  refine s_seq ?_
  refine s_reg [0] rfl ?_
  refine o_run ft [0] rfl rfl ?_
  refine o_nil ?_
  refine q_then ?_
  refine s_seq ?_
  refine s_reg [0] rfl ?_
  refine o_run ft [0] rfl rfl ?_
  refine o_nil ?_
  refine q_then ?_
  refine s_seq ?_
  refine s_seq ?_
  refine s_reg [0] rfl ?_
  refine o_run ft [0] rfl rfl ?_
  refine o_nil ?_
  refine q_then ?_
  refine q_join (fun (x4 : UInt32) (y5 : Unit) => ⟨Sl E8 A1 c2 a0_b :: D0, G0, [(3, (v32 x4))]⟩) H ?_ ?_
  · intro x4 y5 H
    dsimp only
    refine q_then ?_
    refine s_seq ?_
    refine s_reg [0, 1] rfl ?_
    refine o_run ft [0, 1] rfl rfl ?_
    refine o_nil ?_
    refine q_then ?_
    refine s_ret ?_
    cases H
    exact q_end (rs_1 Tryz.results224 (rv_tmp rfl)) ⟨rfl, rfl, rfl⟩ [] rfl 1 rfl [] rfl 0 rfl
  · intro J3 J3h H
    refine s_block ?_
    refine s_loop (k_wk (loop_ind (fun (s6 : UInt32 × Int) (y6 : Unit) => ⟨Sl E8 A1 c2 a0_b :: D0, G0, [(0, (.slice A1 a0_b.length c2)), (3, (v32 s6.1)), (5, (vi s6.2))]⟩) (turn_Big_l0 a0_b J3) _ (fun _ => rfl) ?_ Fuel (0, 0) () H) [0, 3, 5] [0] 1 [] 0 rfl rfl rfl)
    intro k6 s6 y6 ih H
    dsimp only
    rw [turn_Big_l0] at H
    refine s_seq ?_
    refine s_reg [0] rfl ?_
    refine o_run ft [0] rfl rfl ?_
    refine o_nil ?_
    refine q_then ?_
    refine s_seq ?_
    refine s_cond rfl ?_ ?_
    · intro hb7
      have H := cnd_t H hb7
      refine s_skip ?_
      refine q_then ?_
      refine s_seq ?_
      refine s_block ?_
      refine s_seq ?_
      refine s_reg [0, 1] rfl ?_
      refine o_run ft [0, 1] rfl rfl ?_
      refine o_nil ?_
      refine q_then ?_
      refine s_seq ?_
      refine s_reg [0, 1, 2] rfl ?_
      refine o_run ft [0] rfl rfl ?_
      refine o_pu rfl (ev_bin rfl rfl rfl rfl (shl_32 _ 8)) (g0 rfl) rfl rfl ?_
      refine o_run ft [2] rfl rfl ?_
      refine o_nil ?_
      refine q_then ?_
      refine s_seq ?_
      refine s_reg [0, 1, 2, 3] rfl ?_
      refine o_run ft [0, 1] rfl rfl ?_
      refine o_pu rfl (ev_len_slice rfl rfl Tryz.runUnderlying22) (g0 rfl) rfl rfl ?_
      refine o_run ft [3] rfl rfl ?_
      refine o_nil ?_
      refine q_then ?_
      refine q_join (fun (x10 : UInt32) (y11 : Unit) => ⟨Sl E8 A1 c2 a0_b :: D0, G0, [(0, (.slice A1 a0_b.length c2)), (3, (v32 x10)), (5, (vi s6.2))]⟩) H ?_ ?_
      · intro x10 y11 H
        dsimp only
        refine q_block ?_
        refine q_then ?_
        refine s_reg [0, 1] rfl ?_
        refine o_run ft [0, 1] rfl rfl ?_
        refine o_nil ?_
        refine q_loop ?_
        exact k_wk (ih (x10, (wrap64 (s6.2 + 1))) () H) [0, 3, 5] [0] 1 [] 0 rfl rfl rfl
      · intro J9 J9h H
        refine s_cond rfl ?_ ?_
        · intro hb12
          have H := cnd_t H hb12
          refine s_reg [0, 1, 2, 3, 4, 5, 6, 7] rfl ?_
          refine o_run ft [0, 1, 2] rfl rfl ?_
          obtain ⟨hk15, H⟩ := chk_some H
          refine oc (k_idx 0 0 rfl rfl rfl rfl rfl E8_len rfl Tryz.runUnderlying22 Tryz.sizeOf5 hk15 (g0 rfl) rfl rfl ?_)
          intro b13 q14
          refine o_ld (hD 0 rfl) rfl (ev_ld1 (j := 0) rfl rfl Tryz.isAgg5 (sub_nth (j := 0) rfl) rfl) (g0 rfl) rfl rfl ?_
          refine o_pu rfl (ev_conv rfl rfl (conv_u8_u32 _ Tryz.runUnderlying5 Tryz.runUnderlying141)) (g0 rfl) rfl rfl ?_
          refine o_pu rfl (ev_bin rfl rfl rfl rfl (or_32 _ _)) (g0 rfl) rfl rfl ?_
          refine o_run ft [7] rfl rfl ?_
          refine o_nil ?_
          exact k_wk (J9h ((shl32 (s6.1 : UInt32) (8 : UInt64).toNat) ||| (at' 0 a0_b s6.2).toUInt32) () H) [0, 3, 5] [1] 2 [] 0 rfl rfl rfl
        · intro hb12
          have H := cnd_f H hb12
          refine s_skip ?_
          exact k_wk (J9h (shl32 (s6.1 : UInt32) (8 : UInt64).toNat) () H) [0, 3, 5] [0] 1 [] 0 rfl rfl rfl
    · intro hb7
      have H := cnd_f H hb7
      refine s_exit ?_
      refine q_then_x ?_
      refine q_then_x ?_
      refine q_block_x ?_
      exact k_wk (J3h s6.1 () H) [3] [0] 1 [] 0 rfl rfl rfl

def nor_Flash_stays (a0_f : FlashS) (a1_i : Int) (a2_cut : Bool) : Option UInt8 :=
bnd (!a2_cut) fun b1 =>
jn (fun x4 =>
bif x4 then (
some 0) else (
chk (0 ≤ (a1_i.tmod (a0_f.mask.length : Int)) ∧ (a1_i.tmod (a0_f.mask.length : Int)) < a0_f.mask.length) <|
chk (((a0_f.mask.length : Int) == 0) = false) <|
some (at' 0 a0_f.mask (a1_i.tmod (a0_f.mask.length : Int))))) fun J3 =>
bif b1 then (
J3 true) else
J3 ((a0_f.mask.length : Int) == 0)

theorem c_nor_Flash_stays (a0_fp : Nat) (a0_f : FlashS) (a0_fg : FlashG) (a1_i : Int) (a2_cut : Bool) (r : UInt8) (H : nor_Flash_stays a0_f a1_i a2_cut = some r) : Fn Tryz.prog 226 [(.pointer (some ⟨a0_fp, 0, none⟩)), (vi a1_i), (vb a2_cut)] [] [FlashT a0_fg a0_fp a0_f] (fun v D' G' => v = (v8 r) ∧ D' = [] ∧ G' = [FlashT a0_fg a0_fp a0_f]) := by
  unfold nor_Flash_stays at H
  refine fn_of Tryz.func226 rfl Tryz.ntmps226 rfl ?_
  intro w0 D0 G0
  dsimp only [app, initEnv, Nat.zero_add, Nat.reduceAdd]
  refine s_seq ?_
  refine s_reg [0] rfl ?_
  refine o_run ft [0] rfl rfl ?_
  refine o_nil ?_
  refine q_then ?_
  refine s_seq ?_
  refine s_seq ?_
  refine s_reg [0, 1, 2, 3, 4, 5, 6, 7, 8, 9] rfl ?_
  refine o_run ft [0, 1, 2] rfl rfl ?_
  refine k_name 9 rfl ?_
  intro b1 hb2
  have H := bnd_eq H hb2
  refine o_jb 16 [] [0, 1, 2, 6, 7, 8, 9] H rfl ?_ ?_
  · intro x4 H
    refine o_nil ?_
    refine q_then ?_
    refine s_cond rfl ?_ ?_
    · intro hb5
      have H := cnd_t H hb5
      refine s_seq ?_
      refine s_reg [0] rfl ?_
      refine o_run ft [0] rfl rfl ?_
      refine o_nil ?_
      refine q_then ?_
      refine s_ret ?_
      refine q_then_r ?_
      cases H
      exact q_end (rs_1 Tryz.results226 (rv_tmp rfl)) ⟨rfl, rfl, rfl⟩ [] rfl 0 rfl [0] rfl 0 rfl
    · intro hb5
      have H := cnd_f H hb5
      refine s_skip ?_
      refine q_then ?_
      refine s_seq ?_
      refine k_unp 0 rfl ?_
      dsimp only [app, del]
      obtain ⟨hk10, H⟩ := chk_some H
      refine k_elem (k := (a1_i.tmod (a0_f.mask.length : Int))) 0 0 rfl E8_len rfl hk10 ?_
      intro b6 p7 q8 hA9
      refine s_draw mixed [(3, [], Has a0_fp 0 [.slice (some ⟨a0_fg.b0, 0, none⟩) a0_f.b.length a0_f.b.length, .slice (some ⟨a0_fg.b1, 0, none⟩) a0_f.wear.length a0_f.wear.length, vi a0_f.cut, .slice a0_fg.A3 a0_f.mask.length a0_fg.c3, vb a0_f.off, vi a0_f.ops]), (8, [], Has a0_fp 0 [.slice (some ⟨a0_fg.b0, 0, none⟩) a0_f.b.length a0_f.b.length, .slice (some ⟨a0_fg.b1, 0, none⟩) a0_f.wear.length a0_f.wear.length, vi a0_f.cut, .slice a0_fg.A3 a0_f.mask.length a0_fg.c3, vb a0_f.off, vi a0_f.ops]), (12, [], Has b6 q8 [v8 (at' 0 a0_f.mask (a1_i.tmod (a0_f.mask.length : Int)))])] ?_
      refine a_run ft [0, 1, 2] rfl (fun _ _ _ _ _ h => h) (by kernel_rfl) rfl ?_
      refine a_l1 3 0 rfl (by kernel_rfl) rfl (ev_ld1 (j := 3) rfl rfl Tryz.isAgg22 (sub_nth (j := 3) rfl) rfl) (fun _ _ _ h => h) (g0 rfl) rfl rfl ?_
      refine a_run ft [4, 5, 6, 7] rfl (fun _ _ _ _ _ h => h) (by kernel_rfl) rfl ?_
      refine a_l1 8 1 rfl (by kernel_rfl) rfl (ev_ld1 (j := 3) rfl rfl Tryz.isAgg22 (sub_nth (j := 3) rfl) rfl) (fun _ _ _ h => h) (g0 rfl) rfl rfl ?_
      refine a_p1 9 (by kernel_rfl) rfl (ev_len_slice rfl rfl Tryz.runUnderlying22) (fun _ _ _ h => h) (g0 rfl) rfl rfl ?_
      obtain ⟨hk11, H⟩ := chk_some H
      refine a_p1 10 (by kernel_rfl) rfl (ev_bin rfl rfl rfl rfl (rem_i _ _ hk11)) (fun _ _ _ h => h) (g0 rfl) rfl rfl ?_
      refine a_p1 11 (by kernel_rfl) rfl (ev_idx_sl rfl rfl rfl Tryz.runUnderlying22 Tryz.sizeOf5 hk10 hA9) (fun _ _ _ h => h) (g0 rfl) rfl rfl ?_
      refine a_l1 12 2 rfl (by kernel_rfl) rfl (ev_ld1 (j := 0) rfl rfl Tryz.isAgg5 (sub_nth (j := 0) rfl) rfl) (fun _ _ _ h => h) (g0 rfl) rfl rfl ?_
      refine a_run ft [13] rfl (fun _ _ _ _ _ h => h) (by kernel_rfl) rfl ?_
      refine a_done (by kernel_rfl) (sl_cons (hG 0 rfl) (sl_cons (hG 0 rfl) (sl_cons (hD 0 rfl) sl_nil))) ?_
      refine q_then ?_
      refine s_ret ?_
      refine k_pk (FlashT a0_fg a0_fp a0_f) rfl [1] [0, 0, 0] rfl rfl ?_
      cases H
      exact q_end (rs_1 Tryz.results226 (rv_tmp rfl)) ⟨rfl, rfl, rfl⟩ [] rfl 2 rfl [0] rfl 0 rfl
  · intro J3 J3h H
    cases b1 with
    | true =>
      rw [cond_true] at H
      refine o_gnot rfl rfl rfl rfl rfl rfl rfl rfl ?_
      refine o_gnot rfl rfl rfl rfl rfl rfl rfl rfl ?_
      refine o_gnot rfl rfl rfl rfl rfl rfl rfl rfl ?_
      refine o_gnot rfl rfl rfl rfl rfl rfl rfl rfl ?_
      refine o_gnot rfl rfl rfl rfl rfl rfl rfl rfl ?_
      refine o_gnot rfl rfl rfl rfl rfl rfl rfl rfl ?_
      refine o_run ft [9] rfl rfl ?_
      exact k_wk (J3h true H) [16, 0, 1, 2, 6, 7, 8, 9] [] 0 [0] 0 rfl rfl rfl
    | false =>
      rw [cond_false] at H
      refine o_run ft [3, 4, 5] rfl rfl ?_
      refine k_unp 0 rfl ?_
      dsimp only [app, del]
      refine o_ld (hG 0 rfl) rfl (ev_ld1 (j := 3) rfl rfl Tryz.isAgg22 (sub_nth (j := 3) rfl) rfl) (g1 rfl rfl rfl rfl) rfl rfl ?_
      refine o_pu rfl (ev_len_slice rfl rfl Tryz.runUnderlying22) (g1 rfl rfl rfl rfl) rfl rfl ?_
      refine o_run ft [8, 9] rfl rfl ?_
      refine k_pk (FlashT a0_fg a0_fp a0_f) rfl [0] [0, 0, 0] rfl rfl ?_
      exact k_wk (J3h ((a0_f.mask.length : Int) == 0) H) [16, 0, 1, 2, 6, 7, 8, 9] [] 1 [0] 0 rfl rfl rfl

end Go.Proofs.YtpdoioeckiiegaaGreatDoor.Wl
