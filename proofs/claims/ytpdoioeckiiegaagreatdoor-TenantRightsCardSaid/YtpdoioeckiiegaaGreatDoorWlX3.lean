import Derived.Test.YtpdoioeckiiegaaGreatDoorWlW
import Derived.Test.YtpdoioeckiiegaaGreatDoorWlX0
import Derived.Test.YtpdoioeckiiegaaGreatDoorWlX1
set_option linter.unusedSimpArgs false
set_option linter.unusedVariables false
set_option maxRecDepth 10000
namespace Go.Proofs.YtpdoioeckiiegaaGreatDoor.Wl
open Go.RowKit Go.Proofs
def math_bits_RotateLeft32 (a0_x : UInt32) (a1_k : Int) : Option UInt32 :=
some ((shl32 (a0_x : UInt32) (((UInt64.ofInt a1_k) &&& (31 : UInt64)) : UInt64).toNat) ||| (shr32 (a0_x : UInt32) (((32 : UInt64) - ((UInt64.ofInt a1_k) &&& (31 : UInt64))) : UInt64).toNat))

theorem c_math_bits_RotateLeft32 (a0_x : UInt32) (a1_k : Int) (r : UInt32) (H : math_bits_RotateLeft32 a0_x a1_k = some r) : Fn Tryz.prog 230 [(v32 a0_x), (vi a1_k)] [] [] (fun v D' G' => v = (v32 r) ∧ D' = [] ∧ G' = []) := by
  unfold math_bits_RotateLeft32 at H
  refine fn_of Tryz.func230 rfl Tryz.ntmps230 rfl ?_
  intro w0 D0 G0
  dsimp only [app, initEnv, Nat.zero_add, Nat.reduceAdd]
  refine s_seq ?_
  refine s_reg [0] rfl ?_
  refine o_run ft [0] rfl rfl ?_
  refine o_nil ?_
  refine q_then ?_
  refine s_seq ?_
  refine s_reg [0, 1, 2, 3] rfl ?_
  refine o_run ft [0] rfl rfl ?_
  refine o_pu rfl (ev_conv rfl rfl (conv_i_u64 _ Tryz.runUnderlying3 Tryz.runUnderlying55)) (g0 rfl) rfl rfl ?_
  refine o_pu rfl (ev_bin rfl rfl rfl rfl (and_64 _ 31)) (g0 rfl) rfl rfl ?_
  refine o_run ft [3] rfl rfl ?_
  refine o_nil ?_
  refine q_then ?_
  refine s_seq ?_
  refine s_reg [0, 1, 2, 3, 4, 5, 6, 7, 8] rfl ?_
  refine o_run ft [0, 1] rfl rfl ?_
  refine o_pu rfl (ev_bin rfl rfl rfl rfl (shl_32 _ _)) (g0 rfl) rfl rfl ?_
  refine o_run ft [3, 4] rfl rfl ?_
  refine o_pu rfl (ev_bin rfl rfl rfl rfl (sub_64 32 _)) (g0 rfl) rfl rfl ?_
  refine o_pu rfl (ev_bin rfl rfl rfl rfl (shr_32 _ _)) (g0 rfl) rfl rfl ?_
  refine o_pu rfl (ev_bin rfl rfl rfl rfl (or_32 _ _)) (g0 rfl) rfl rfl ?_
  refine o_run ft [8] rfl rfl ?_
  refine o_nil ?_
  refine q_then ?_
  refine s_ret ?_
  cases H
  exact q_end (rs_1 Tryz.results230 (rv_tmp rfl)) ⟨rfl, rfl, rfl⟩ [] rfl 0 rfl [] rfl 0 rfl

def unicode_utf8_ValidRune (a0_r : Int) : Option Bool :=
bnd (decide (0 ≤ a0_r)) fun b1 =>
jn (fun x4 =>
bif x4 then (
some true) else (
bnd (decide (57343 < a0_r)) fun b6 =>
jn (fun x9 =>
bif x9 then (
some true) else (
some false)) fun J8 =>
bif b6 then (
J8 (decide (a0_r ≤ 1114111))) else
J8 false)) fun J3 =>
bif b1 then (
J3 (decide (a0_r < 55296))) else
J3 false

theorem c_unicode_utf8_ValidRune (a0_r : Int) (r : Bool) (H : unicode_utf8_ValidRune a0_r = some r) : Fn Tryz.prog 236 [(vr a0_r)] [] [] (fun v D' G' => v = (vb r) ∧ D' = [] ∧ G' = []) := by
  unfold unicode_utf8_ValidRune at H
  refine fn_of Tryz.func236 rfl Tryz.ntmps236 rfl ?_
  intro w0 D0 G0
  dsimp only [app, initEnv, Nat.zero_add, Nat.reduceAdd]
  refine s_seq ?_
  refine s_reg [0] rfl ?_
  refine o_run ft [0] rfl rfl ?_
  refine o_nil ?_
  refine q_then ?_
  refine s_seq ?_
  refine s_block ?_
  refine s_seq ?_
  refine s_reg [0, 1, 2, 3, 4, 5, 6] rfl ?_
  refine o_run ft [0] rfl rfl ?_
  refine o_pu rfl (ev_bin rfl rfl rfl rfl (leq_r 0 _)) (g0 rfl) rfl rfl ?_
  refine o_run ft [2] rfl rfl ?_
  refine k_name 6 rfl ?_
  intro b1 hb2
  have H := bnd_eq H hb2
  refine o_jb 9 [6] [0, 2, 4, 5, 6] H rfl ?_ ?_
  · intro x4 H
    refine o_run ft [6] rfl rfl ?_
    refine o_nil ?_
    refine q_then ?_
    refine s_cond rfl ?_ ?_
    · intro hb5
      have H := cnd_t H hb5
      refine s_seq ?_
      refine s_reg [0] rfl ?_
      refine o_run ft [0] rfl rfl ?_
      refine o_nil ?_
      refine q_then ?_
      refine s_ret ?_
      refine q_block_r ?_
      refine q_then_r ?_
      cases H
      exact q_end (rs_1 Tryz.results236 (rv_tmp rfl)) ⟨rfl, rfl, rfl⟩ [] rfl 0 rfl [] rfl 0 rfl
    · intro hb5
      have H := cnd_f H hb5
      refine s_seq ?_
      refine s_reg [0, 1, 2, 3, 4, 5, 6] rfl ?_
      refine o_run ft [0] rfl rfl ?_
      refine o_pu rfl (ev_bin rfl rfl rfl rfl (lss_r 57343 _)) (g0 rfl) rfl rfl ?_
      refine o_run ft [2] rfl rfl ?_
      refine k_name 13 rfl ?_
      intro b6 hb7
      have H := bnd_eq H hb7
      refine o_jb 16 [6] [0, 2, 3, 4, 5, 6, 9, 11, 12, 13] H rfl ?_ ?_
      · intro x9 H
        refine o_run ft [6] rfl rfl ?_
        refine o_nil ?_
        refine q_then ?_
        refine s_cond rfl ?_ ?_
        · intro hb10
          have H := cnd_t H hb10
          refine s_seq ?_
          refine s_reg [0] rfl ?_
          refine o_run ft [0] rfl rfl ?_
          refine o_nil ?_
          refine q_then ?_
          refine s_ret ?_
          refine q_block_r ?_
          refine q_then_r ?_
          cases H
          exact q_end (rs_1 Tryz.results236 (rv_tmp rfl)) ⟨rfl, rfl, rfl⟩ [] rfl 0 rfl [] rfl 0 rfl
        · intro hb10
          have H := cnd_f H hb10
          refine s_skip ?_
          refine q_block ?_
          refine q_then ?_
          refine s_seq ?_
          refine s_reg [0] rfl ?_
          refine o_run ft [0] rfl rfl ?_
          refine o_nil ?_
          refine q_then ?_
          refine s_ret ?_
          cases H
          exact q_end (rs_1 Tryz.results236 (rv_tmp rfl)) ⟨rfl, rfl, rfl⟩ [] rfl 0 rfl [] rfl 0 rfl
      · intro J8 J8h H
        cases b6 with
        | true =>
          rw [cond_true] at H
          refine o_run ft [3] rfl rfl ?_
          refine o_pu rfl (ev_bin rfl rfl rfl rfl (leq_r _ 1114111)) (g1 rfl rfl rfl rfl) rfl rfl ?_
          refine o_run ft [5] rfl rfl ?_
          exact k_wk (J8h (decide (a0_r ≤ 1114111)) H) [16, 0, 2, 3, 4, 5, 6, 9, 11, 12, 13] [] 0 [] 0 rfl rfl rfl
        | false =>
          rw [cond_false] at H
          refine o_gnot rfl rfl rfl rfl rfl rfl rfl rfl ?_
          refine o_gnot rfl rfl rfl rfl rfl rfl rfl rfl ?_
          refine o_run ft [5] rfl rfl ?_
          exact k_wk (J8h false H) [16, 0, 2, 3, 4, 5, 6, 9, 11, 12, 13] [] 0 [] 0 rfl rfl rfl
  · intro J3 J3h H
    cases b1 with
    | true =>
      rw [cond_true] at H
      refine o_run ft [3] rfl rfl ?_
      refine o_pu rfl (ev_bin rfl rfl rfl rfl (lss_r _ 55296)) (g1 rfl rfl rfl rfl) rfl rfl ?_
      refine o_run ft [5] rfl rfl ?_
      exact k_wk (J3h (decide (a0_r < 55296)) H) [9, 0, 2, 4, 5, 6] [] 0 [] 0 rfl rfl rfl
    | false =>
      rw [cond_false] at H
      refine o_gnot rfl rfl rfl rfl rfl rfl rfl rfl ?_
      refine o_gnot rfl rfl rfl rfl rfl rfl rfl rfl ?_
      refine o_run ft [5] rfl rfl ?_
      exact k_wk (J3h false H) [9, 0, 2, 4, 5, 6] [] 0 [] 0 rfl rfl rfl

def internal_bytealg_Cutover (a0_n : Int) : Option Int :=
some (wrap64 ((wrap64 (a0_n + 16)).tdiv 8))

theorem c_internal_bytealg_Cutover (a0_n : Int) (r : Int) (H : internal_bytealg_Cutover a0_n = some r) : Fn Tryz.prog 237 [(vi a0_n)] [] [] (fun v D' G' => v = (vi r) ∧ D' = [] ∧ G' = []) := by
  unfold internal_bytealg_Cutover at H
  refine fn_of Tryz.func237 rfl Tryz.ntmps237 rfl ?_
  intro w0 D0 G0
  dsimp only [app, initEnv, Nat.zero_add, Nat.reduceAdd]
  refine s_seq ?_
  refine s_reg [0] rfl ?_
  refine o_run ft [0] rfl rfl ?_
  refine o_nil ?_
  refine q_then ?_
  refine s_seq ?_
  refine s_reg [0, 1, 2, 3] rfl ?_
  refine o_run ft [0, 1] rfl rfl ?_
  refine o_pu rfl (ev_bin rfl rfl rfl rfl (quo_i _ 8 rfl)) (g0 rfl) rfl rfl ?_
  refine o_run ft [3] rfl rfl ?_
  refine o_nil ?_
  refine q_then ?_
  refine s_ret ?_
  cases H
  exact q_end (rs_1 Tryz.results237 (rv_tmp rfl)) ⟨rfl, rfl, rfl⟩ [] rfl 0 rfl [] rfl 0 rfl

def area_New (a0_f : FlashS) (a1_c : CapS) (a2_budget : Int) : Option AreaS :=
bnd (if 0 < (if 1000 < a2_budget then 1000 else a2_budget) then (if 1000 < a2_budget then 1000 else a2_budget) else 0) fun x2 =>
jn (fun (x6 : Bool) =>
jn (fun (x10 : Int × Int) =>
some (⟨x10.1, x10.2, x2⟩ : AreaS)) fun J9 =>
bif x6 then (
(nor_Flash_Len a0_f).bind fun r13 =>
J9 (a1_c.From, (if (wrap64 (r13 - a1_c.From)) < a1_c.Len then (wrap64 (r13 - a1_c.From)) else a1_c.Len))) else (
J9 (0, 0))) fun J5 =>
bnd (decide (a1_c.From ≥ 0)) fun b15 =>
bif b15 then (
(nor_Flash_Len a0_f).bind fun r17 =>
bnd (decide (a1_c.From ≤ r17)) fun b19 =>
bif b19 then (
J5 (decide (a1_c.Len > 0))) else (
J5 false)) else (
J5 false)

theorem c_area_New (a0_fp : Nat) (a0_f : FlashS) (a0_fg : FlashG) (a1_c : CapS) (a2_budget : Int) (r : AreaS) (H : area_New a0_f a1_c a2_budget = some r) : Fn Tryz.prog 32 [(.pointer (some ⟨a0_fp, 0, none⟩)), (.agg (CapS.cells a1_c).toArray), (vi a2_budget)] [] [FlashT a0_fg a0_fp a0_f] (fun v D' G' => ∃ (b21 : Nat), v = (.pointer (some ⟨b21, 0, none⟩)) ∧ D' = [] ∧ G' = [AreaT a0_fp () b21 r, FlashT a0_fg a0_fp a0_f]) := by
  unfold area_New at H
  refine fn_of Tryz.func32 rfl Tryz.ntmps32 rfl ?_
  intro w0 D0 G0
  dsimp only [app, initEnv, Nat.zero_add, Nat.reduceAdd]
  refine s_seq ?_
  refine s_reg [0, 1] rfl ?_
  refine oc (k_box rfl rfl rfl (cs := CapS.cells a1_c) rfl (g0 rfl) rfl rfl ?_)
  intro b1
  refine o_run ft [1] rfl rfl ?_
  refine o_nil ?_
  refine q_then ?_
  refine s_seq ?_
  refine s_reg [0, 1, 2, 3, 4, 5, 6] rfl ?_
  refine o_run ft [0, 1] rfl rfl ?_
  refine o_pu rfl (ev_min rfl rfl rfl) (g0 rfl) rfl rfl ?_
  refine o_pu rfl (ev_max rfl rfl rfl) (g0 rfl) rfl rfl ?_
  obtain ⟨x2, hx3⟩ : ∃ x : Int, x = (if 0 < (if 1000 < a2_budget then 1000 else a2_budget) then (if 1000 < a2_budget then 1000 else a2_budget) else 0) := ⟨_, rfl⟩
  have H := bnd_eq H hx3
  refine k_eq (v' := vi x2) 11 rfl (by rw [hx3]) ?_
  refine o_pu rfl (ev_build (cs := [.pointer (some ⟨a0_fp, 0, none⟩), vi 0, vi 0, vi x2]) rfl rfl Tryz.zeroValue135 Tryz.runUnderlying135 pl135 (show Instr.fill _ ([.pointer none, vi 0, vi 0, vi 0] : List Value).toArray _ = some _ from (fill_cons rfl (s := [.pointer (some ⟨a0_fp, 0, none⟩)]) rfl rfl (spl_lit (j := 0) (cs' := [.pointer (some ⟨a0_fp, 0, none⟩), vi 0, vi 0, vi 0]) rfl rfl) (fill_cons rfl (s := [vi x2]) rfl rfl (spl_lit (j := 3) (cs' := [.pointer (some ⟨a0_fp, 0, none⟩), vi 0, vi 0, vi x2]) rfl rfl) fill_nil)))) (g0 rfl) rfl rfl ?_
  refine oc (k_box rfl rfl rfl (cs := [.pointer (some ⟨a0_fp, 0, none⟩), vi 0, vi 0, vi x2]) rfl (g0 rfl) rfl rfl ?_)
  intro b4
  refine o_run ft [6] rfl rfl ?_
  refine o_nil ?_
  refine q_then ?_
  refine s_seq ?_
  refine s_seq ?_
  refine q_join (fun (x6 : Bool) (y7 : Unit) => ⟨D0, At b4 0 [.pointer (some ⟨a0_fp, 0, none⟩), vi 0, vi 0, vi x2] :: At b1 0 (CapS.cells a1_c) :: FlashT a0_fg a0_fp a0_f :: G0, [(0, (.pointer (some ⟨a0_fp, 0, none⟩))), (4, (.pointer (some ⟨b1, 0, none⟩))), (7, (.pointer (some ⟨b4, 0, none⟩))), (28, (vb x6))]⟩) H ?_ ?_
  · intro x6 y7 H
    dsimp only
    refine q_then ?_
    refine q_join (fun (x10 : Int × Int) (y11 : Unit) => ⟨D0, At b4 0 [.pointer (some ⟨a0_fp, 0, none⟩), vi x10.1, vi x10.2, vi x2] :: At b1 0 (CapS.cells a1_c) :: FlashT a0_fg a0_fp a0_f :: G0, [(7, (.pointer (some ⟨b4, 0, none⟩)))]⟩) H ?_ ?_
    · intro x10 y11 H
      dsimp only
      refine q_then ?_
      refine s_seq ?_
      refine s_reg [0, 1] rfl ?_
      refine o_run ft [0, 1] rfl rfl ?_
      refine o_nil ?_
      refine q_then ?_
      refine s_ret ?_
      refine k_pk (AreaT a0_fp () b4 (⟨x10.1, x10.2, x2⟩ : AreaS)) rfl [] [0] rfl rfl ?_
      cases H
      exact q_end (rs_1 Tryz.results32 (rv_tmp rfl)) ⟨b4, rfl, rfl, rfl⟩ [] rfl 0 rfl [0, 1] rfl 1 rfl
    · intro J9 J9h H
      refine s_cond rfl ?_ ?_
      · intro hb12
        have H := cnd_t H hb12
        refine s_draw mixed [(3, [14, 17], Has b1 0 (CapS.cells a1_c)), (5, [17], Has b1 0 (CapS.cells a1_c)), (9, [17], Has b1 0 (CapS.cells a1_c))] ?_
        refine a_run ft [0, 1, 2] rfl (fun _ _ _ _ _ h => h) (by kernel_rfl) rfl ?_
        refine a_l1 3 0 rfl (by kernel_rfl) rfl (ev_ld1 (j := 1) rfl rfl Tryz.isAgg3 (CapS.sub_From _) rfl) (fun _ _ _ h => h) (g0 rfl) rfl rfl ?_
        refine a_run ft [4] rfl (fun _ _ _ _ _ h => h) (by kernel_rfl) rfl ?_
        refine a_l1 5 1 rfl (by kernel_rfl) rfl (ev_ld1 (j := 2) rfl rfl Tryz.isAgg3 (CapS.sub_Len _) rfl) (fun _ _ _ h => h) (g0 rfl) rfl rfl ?_
        refine a_run ft [6, 8] rfl (fun _ _ _ _ _ h => h) (by kernel_rfl) rfl ?_
        refine a_l1 9 2 rfl (by kernel_rfl) rfl (ev_ld1 (j := 1) rfl rfl Tryz.isAgg3 (CapS.sub_From _) rfl) (fun _ _ _ h => h) (g0 rfl) rfl rfl ?_
        refine ac 7 (by kernel_rfl) (sl_cons (hG 1 rfl) (sl_cons (hG 1 rfl) (sl_cons (hG 1 rfl) sl_nil))) ?_
        obtain ⟨r13, Hc14, H⟩ := bind_some' H
        refine k_call (c_nor_Flash_Len a0_fp a0_f a0_fg r13 Hc14) Tryz.call79 rfl rfl rfl [] [2] rfl rfl (g0 rfl) rfl rfl ?_
        rintro _ _ _ ⟨rfl, rfl, rfl⟩
        dsimp only [app]
        refine a_run ft [10] rfl (fun _ _ _ _ _ h => h) (by kernel_rfl) rfl ?_
        refine a_p1 11 (by kernel_rfl) rfl (ev_min rfl rfl rfl) (fun _ _ _ h => h) (g0 rfl) rfl rfl ?_
        refine a_run ft [12, 13] rfl (fun _ _ _ _ _ h => h) (by kernel_rfl) rfl ?_
        refine ac 14 (by kernel_rfl) (sl_cons (hG 2 rfl) (sl_cons (hG 2 rfl) (sl_cons (hG 2 rfl) sl_nil))) ?_
        refine k_st (j := 1) rfl rfl rfl rfl (vs := [vi a1_c.From]) rfl (sz rfl Tryz.sizeOf3) rfl 1 rfl (spl_lit (j := 1) (cs' := [.pointer (some ⟨a0_fp, 0, none⟩), vi a1_c.From, vi 0, vi x2]) rfl rfl) rfl (g0 rfl) rfl ?_
        refine a_run ft [15, 16] rfl (fun _ _ _ _ _ h => h) (by kernel_rfl) rfl ?_
        refine ac 17 (by kernel_rfl) (sl_end (by kernel_rfl) (sl_cons (hG 2 rfl) (sl_cons (hG 2 rfl) sl_nil))) ?_
        refine k_st (j := 2) rfl rfl rfl rfl (vs := [vi (if (wrap64 (r13 - a1_c.From)) < a1_c.Len then (wrap64 (r13 - a1_c.From)) else a1_c.Len)]) rfl (sz rfl Tryz.sizeOf3) rfl 1 rfl (spl_lit (j := 2) (cs' := [.pointer (some ⟨a0_fp, 0, none⟩), vi a1_c.From, vi (if (wrap64 (r13 - a1_c.From)) < a1_c.Len then (wrap64 (r13 - a1_c.From)) else a1_c.Len), vi x2]) rfl rfl) rfl (g0 rfl) rfl ?_
        refine a_done (by kernel_rfl) (sl_end (by kernel_rfl) (sl_end (by kernel_rfl) (sl_end (by kernel_rfl) sl_nil))) ?_
        exact k_wk (J9h (a1_c.From, (if (wrap64 (r13 - a1_c.From)) < a1_c.Len then (wrap64 (r13 - a1_c.From)) else a1_c.Len)) () H) [7] [] 0 [1, 1, 0] 0 rfl rfl rfl
      · intro hb12
        have H := cnd_f H hb12
        refine s_skip ?_
        exact k_wk (J9h (0, 0) () H) [7] [] 0 [0, 0, 0] 0 rfl rfl rfl
  · intro J5 J5h H
    refine s_draw mixed [(1, [], Has b1 0 (CapS.cells a1_c)), (5, [], Has b1 0 (CapS.cells a1_c)), (12, [], Has b1 0 (CapS.cells a1_c))] ?_
    refine a_run ft [0] rfl (fun _ _ _ _ _ h => h) (by kernel_rfl) rfl ?_
    refine a_l1 1 0 rfl (by kernel_rfl) rfl (ev_ld1 (j := 1) rfl rfl Tryz.isAgg3 (CapS.sub_From _) rfl) (fun _ _ _ h => h) (g0 rfl) rfl rfl ?_
    refine a_run ft [2, 3] rfl (fun _ _ _ _ _ h => h) (by kernel_rfl) rfl ?_
    refine k_name 17 rfl ?_
    intro b15 hb16
    have H := bnd_eq H hb16
    cases b15 with
    | true =>
      rw [cond_true] at H
      refine a_run ft [4] rfl (fun _ _ _ _ _ h => h) (by kernel_rfl) rfl ?_
      refine a_l1 5 1 rfl (by kernel_rfl) rfl (ev_ld1 (j := 1) rfl rfl Tryz.isAgg3 (CapS.sub_From _) rfl) (fun _ _ _ h => h) (g1 rfl rfl rfl rfl) rfl rfl ?_
      refine a_run ft [6] rfl (fun _ _ _ _ _ h => h) (by kernel_rfl) rfl ?_
      refine ac 7 (by kernel_rfl) (sl_cons (hG 1 rfl) (sl_cons (hG 1 rfl) (sl_cons (hG 1 rfl) sl_nil))) ?_
      obtain ⟨r17, Hc18, H⟩ := bind_some' H
      refine k_call (c_nor_Flash_Len a0_fp a0_f a0_fg r17 Hc18) Tryz.call79 rfl rfl rfl [] [2] rfl rfl (g1 rfl rfl rfl rfl) rfl rfl ?_
      rintro _ _ _ ⟨rfl, rfl, rfl⟩
      dsimp only [app]
      refine a_run ft [8, 9, 10] rfl (fun _ _ _ _ _ h => h) (by kernel_rfl) rfl ?_
      refine k_name 24 rfl ?_
      intro b19 hb20
      have H := bnd_eq H hb20
      cases b19 with
      | true =>
        rw [cond_true] at H
        refine a_run ft [11] rfl (fun _ _ _ _ _ h => h) (by kernel_rfl) rfl ?_
        refine a_l1 12 2 rfl (by kernel_rfl) rfl (ev_ld1 (j := 2) rfl rfl Tryz.isAgg3 (CapS.sub_Len _) rfl) (fun _ _ _ h => h) (g1 rfl rfl rfl rfl) rfl rfl ?_
        refine a_run ft [13, 14] rfl (fun _ _ _ _ _ h => h) (by kernel_rfl) rfl ?_
        refine a_done (by kernel_rfl) (sl_cons (hG 2 rfl) (sl_cons (hG 2 rfl) (sl_cons (hG 2 rfl) sl_nil))) ?_
        exact k_wk (J5h (decide (a1_c.Len > 0)) () H) [0, 4, 7, 28] [] 0 [1, 1, 0] 0 rfl rfl rfl
      | false =>
        rw [cond_false] at H
        refine a_run ft [11, 12, 13, 14] rfl (fun _ _ _ _ _ h => h) (by kernel_rfl) rfl ?_
        refine a_done (by kernel_rfl) (sl_cons (hG 2 rfl) (sl_cons (hG 2 rfl) (sl_cons (hG 2 rfl) sl_nil))) ?_
        exact k_wk (J5h false () H) [0, 4, 7, 28] [] 0 [1, 1, 0] 0 rfl rfl rfl
    | false =>
      rw [cond_false] at H
      refine a_run ft [4, 5, 6, 7, 8, 9, 10, 11, 12, 13, 14] rfl (fun _ _ _ _ _ h => h) (by kernel_rfl) rfl ?_
      refine a_done (by kernel_rfl) (sl_cons (hG 1 rfl) (sl_cons (hG 1 rfl) (sl_cons (hG 1 rfl) sl_nil))) ?_
      exact k_wk (J5h false () H) [0, 4, 7, 28] [] 0 [0, 0, 0] 0 rfl rfl rfl

def sha_New : Option StreamS :=
(sha_first ).bind fun r1 =>
some (⟨r1, 0, []⟩ : StreamS)

theorem c_sha_New (r : StreamS) (H : sha_New  = some r) : Fn Tryz.prog 80 [] [] [] (fun v D' G' => ∃ (b4 : Nat) (A5 : Option Addr) (c6 : Nat), v = (.pointer (some ⟨b4, 0, none⟩)) ∧ D' = [Sl E8 A5 c6 r.rest] ∧ G' = [At b4 0 (r.h.l.flatMap E32 ++ ([v64 r.count, .slice A5 r.rest.length c6]))]) := by
  unfold sha_New at H
  refine fn_of Tryz.func80 rfl Tryz.ntmps80 rfl ?_
  intro w0 D0 G0
  dsimp only [app, initEnv, Nat.zero_add, Nat.reduceAdd]
  refine s_seq ?_
  refine s_reg [0] rfl ?_
  refine o_run ft [0] rfl rfl ?_
  refine o_nil ?_
  refine q_then ?_
  refine s_seq ?_
  refine s_reg [0, 1, 2, 3] rfl ?_
  obtain ⟨r1, Hc2, H⟩ := bind_some' H
  refine oc (k_call (c_sha_first  r1 Hc2) Tryz.call147 rfl rfl rfl [] [] rfl rfl (g0 rfl) rfl rfl ?_)
  rintro _ _ _ ⟨rfl, rfl, rfl⟩
  dsimp only [app]
  refine o_pu rfl (ev_build (cs := r1.l.flatMap E32 ++ ([v64 0, .slice none 0 0])) rfl rfl Tryz.zeroValue202 Tryz.runUnderlying202 pl202 (show Instr.fill _ ((Arr.zero 0 8 : Arr UInt32 8).l.flatMap E32 ++ ([v64 0, .slice none 0 0]) : List Value).toArray _ = some _ from (fill_cons rfl (s := r1.l.flatMap E32) rfl (arr_len E32_len _ rfl) (spl_head (spl_all ((arr_len E32_len _ rfl).trans (arr_len E32_len _ rfl).symm))) fill_nil))) (g0 rfl) rfl rfl ?_
  refine oc (k_box rfl rfl rfl (cs := r1.l.flatMap E32 ++ ([v64 0, .slice none 0 0])) rfl (g0 rfl) rfl rfl ?_)
  intro b3
  refine o_run ft [3] rfl rfl ?_
  refine o_nil ?_
  refine q_then ?_
  refine s_ret ?_
  cases H
  refine k_nil_sl E8 ?_
  exact q_end (rs_1 Tryz.results80 (rv_tmp rfl)) ⟨b3, none, 0, rfl, rfl, rfl⟩ [0] rfl 1 rfl [0] rfl 0 rfl

def nor_Flash_Wear (a0_f : FlashS) (a1_sector : Int) : Option Int :=
(nor_Flash_is a0_f a1_sector).bind fun r1 =>
bif (!r1) then (
some 0) else (
chk (0 ≤ a1_sector ∧ a1_sector < (a0_f.wear.length : Int) ∧ a1_sector < (a0_f.wear.length : Int)) <|
some (at' 0 a0_f.wear a1_sector))

theorem c_nor_Flash_Wear (a0_fp : Nat) (a0_f : FlashS) (a0_fg : FlashG) (a1_sector : Int) (r : Int) (H : nor_Flash_Wear a0_f a1_sector = some r) : Fn Tryz.prog 85 [(.pointer (some ⟨a0_fp, 0, none⟩)), (vi a1_sector)] [] [FlashT a0_fg a0_fp a0_f] (fun v D' G' => v = (vi r) ∧ D' = [] ∧ G' = [FlashT a0_fg a0_fp a0_f]) := by
  unfold nor_Flash_Wear at H
  refine fn_of Tryz.func85 rfl Tryz.ntmps85 rfl ?_
  intro w0 D0 G0
  dsimp only [app, initEnv, Nat.zero_add, Nat.reduceAdd]
  refine s_seq ?_
  refine s_reg [0] rfl ?_
  refine o_run ft [0] rfl rfl ?_
  refine o_nil ?_
  refine q_then ?_
  refine s_seq ?_
  refine s_seq ?_
  refine s_reg [0, 1, 2, 3] rfl ?_
  refine o_run ft [0, 1] rfl rfl ?_
  obtain ⟨r1, Hc2, H⟩ := bind_some' H
  refine oc (k_call (c_nor_Flash_is a0_fp a0_f a0_fg a1_sector r1 Hc2) Tryz.call152 rfl rfl rfl [] [0] rfl rfl (g0 rfl) rfl rfl ?_)
  rintro _ _ _ ⟨rfl, rfl, rfl⟩
  dsimp only [app]
  refine o_run ft [3] rfl rfl ?_
  refine o_nil ?_
  refine q_then ?_
  refine s_cond rfl ?_ ?_
  · intro hb3
    have H := cnd_t H hb3
    refine s_seq ?_
    refine s_reg [0] rfl ?_
    refine o_run ft [0] rfl rfl ?_
    refine o_nil ?_
    refine q_then ?_
    refine s_ret ?_
    refine q_then_r ?_
    cases H
    exact q_end (rs_1 Tryz.results85 (rv_tmp rfl)) ⟨rfl, rfl, rfl⟩ [] rfl 0 rfl [0] rfl 0 rfl
  · intro hb3
    have H := cnd_f H hb3
    refine s_skip ?_
    refine q_then ?_
    refine s_seq ?_
    refine s_reg [0, 1, 2, 3, 4, 5, 6, 7] rfl ?_
    refine o_run ft [0, 1, 2] rfl rfl ?_
    refine k_unp 0 rfl ?_
    dsimp only [app, del]
    refine o_ld (hG 0 rfl) rfl (ev_ld1 (j := 1) rfl rfl Tryz.isAgg64 (sub_nth (j := 1) rfl) rfl) (g0 rfl) rfl rfl ?_
    refine o_run ft [4] rfl rfl ?_
    obtain ⟨hk4, H⟩ := chk_some H
    refine o_pu rfl (ev_idx_slice rfl rfl rfl Tryz.runUnderlying64 Tryz.sizeOf3 ⟨hk4.1, hk4.2.1⟩ rfl) (g0 rfl) rfl rfl ?_
    refine o_ld (hG 2 rfl) rfl (ev_ld1 rfl rfl Tryz.isAgg3 (sub_map Ei_len 0 (k := a1_sector) ⟨hk4.1, hk4.2.2⟩ rfl) (by omega)) (g0 rfl) rfl rfl ?_
    refine o_run ft [7] rfl rfl ?_
    refine o_nil ?_
    refine q_then ?_
    refine s_ret ?_
    refine k_pk (FlashT a0_fg a0_fp a0_f) rfl [0] [0, 0, 0] rfl rfl ?_
    cases H
    exact q_end (rs_1 Tryz.results85 (rv_tmp rfl)) ⟨rfl, rfl, rfl⟩ [] rfl 1 rfl [0] rfl 0 rfl

def math_bits_Mul (a0_x : UInt64) (a1_y : UInt64) : Option (UInt64 × UInt64) :=
(math_bits_Mul64 a0_x a1_y).bind fun r1 =>
some (r1.1, r1.2)

theorem c_math_bits_Mul (a0_x : UInt64) (a1_y : UInt64) (r : UInt64 × UInt64) (H : math_bits_Mul a0_x a1_y = some r) : Fn Tryz.prog 90 [(v64 a0_x), (v64 a1_y)] [] [] (fun v D' G' => v = (.tuple #[(v64 r.1), (v64 r.2)]) ∧ D' = [] ∧ G' = []) := by
  unfold math_bits_Mul at H
  refine fn_of Tryz.func90 rfl Tryz.ntmps90 rfl ?_
  intro w0 D0 G0
  dsimp only [app, initEnv, Nat.zero_add, Nat.reduceAdd]
  refine s_seq ?_
  refine s_reg [0, 1] rfl ?_
  refine o_run ft [0, 1] rfl rfl ?_
  refine o_nil ?_
  refine q_then ?_
  refine s_seq ?_
  refine s_cond_f rfl ?_
  refine s_skip ?_
  refine q_then ?_
  refine s_seq ?_
  refine s_reg [0, 1, 2, 3, 4, 5, 6, 7] rfl ?_
  refine o_run ft [0, 1] rfl rfl ?_
  obtain ⟨r1, Hc2, H⟩ := bind_some' H
  refine oc (k_call (c_math_bits_Mul64 a0_x a1_y r1 Hc2) Tryz.call156 rfl rfl rfl [] [] rfl rfl (g0 rfl) rfl rfl ?_)
  rintro _ _ _ ⟨rfl, rfl, rfl⟩
  dsimp only [app]
  refine o_run ft [3, 4, 5, 6, 7] rfl rfl ?_
  refine o_nil ?_
  refine q_then ?_
  refine s_seq ?_
  refine s_reg [0, 1, 2, 3] rfl ?_
  refine o_run ft [0, 1, 2, 3] rfl rfl ?_
  refine o_nil ?_
  refine q_then ?_
  refine s_ret ?_
  cases H
  exact q_end (rs_2 Tryz.results90 (rv_tmp rfl) (rv_tmp rfl)) ⟨rfl, rfl, rfl⟩ [] rfl 0 rfl [] rfl 0 rfl

def cell_Put (a0_seq : Int) (a1_b : List UInt8) : Option ((List UInt8) × Int) :=
(cell_May a0_seq).bind fun r3 =>
bif (!r3) then (
some ([], 1)) else (
bif (decide ((a1_b.length : Int) > 156)) then (
some ([], 10)) else (
(field_Writer_Num (⟨[]⟩ : WriterS) a0_seq (4 : Int)).bind fun r8 =>
(field_Writer_Raw (⟨r8.b⟩ : WriterS) a1_b (156 : Int)).bind fun r12 =>
(field_Writer_Bytes (⟨r12.b⟩ : WriterS)).bind fun r16 =>
(dual_Put r16).bind fun r20 =>
some (r20, 0)))

theorem c_cell_Put (a0_seq : Int) (a1_b : List UInt8) (A1 : Option Addr) (c2 : Nat) (r : (List UInt8) × Int) (H : cell_Put a0_seq a1_b = some r) : Fn Tryz.prog 101 [(vi a0_seq), (.slice A1 a1_b.length c2)] [Sl E8 A1 c2 a1_b] [] (fun v D' G' => ∃ (A24 : Option Addr) (c25 : Nat), v = (.tuple #[(.slice A24 r.1.length c25), (vi r.2)]) ∧ D' = [Sl E8 A24 c25 r.1] ∧ G' = [Spare A24 r.1.length c25 1]) := by
  unfold cell_Put at H
  refine fn_of Tryz.func101 rfl Tryz.ntmps101 rfl ?_
  intro w0 D0 G0
  dsimp only [app, initEnv, Nat.zero_add, Nat.reduceAdd]
  refine s_seq ?_
  refine s_reg [0, 1] rfl ?_
  refine o_run ft [0, 1] rfl rfl ?_
  refine o_nil ?_
  refine q_then ?_
  refine s_seq ?_
  refine s_block ?_
  refine s_seq ?_
  refine s_reg [0, 1, 2, 3] rfl ?_
  refine o_run ft [0] rfl rfl ?_
  obtain ⟨r3, Hc4, H⟩ := bind_some' H
  refine oc (k_call (c_cell_May a0_seq r3 Hc4) Tryz.call164 rfl rfl rfl [] [] rfl rfl (g0 rfl) rfl rfl ?_)
  rintro _ _ _ ⟨rfl, rfl, rfl⟩
  dsimp only [app]
  refine o_run ft [2, 3] rfl rfl ?_
  refine o_nil ?_
  refine q_then ?_
  refine s_cond rfl ?_ ?_
  · intro hb5
    have H := cnd_t H hb5
    refine s_seq ?_
    refine s_reg [0, 1] rfl ?_
    refine o_run ft [0, 1] rfl rfl ?_
    refine o_nil ?_
    refine q_then ?_
    refine s_ret ?_
    refine q_block_r ?_
    refine q_then_r ?_
    cases H
    refine k_nil_sl E8 ?_
    refine k_nil_spare 1 ?_
    exact q_end (rs_2 Tryz.results101 (rv_tmp rfl) (rv_tmp rfl)) ⟨none, 0, rfl, rfl, rfl⟩ [0] rfl 2 rfl [0] rfl 0 rfl
  · intro hb5
    have H := cnd_f H hb5
    refine s_seq ?_
    refine s_reg [0, 1, 2, 3] rfl ?_
    refine o_run ft [0] rfl rfl ?_
    refine o_pu rfl (ev_len_slice rfl rfl Tryz.runUnderlying22) (g0 rfl) rfl rfl ?_
    refine o_run ft [2, 3] rfl rfl ?_
    refine o_nil ?_
    refine q_then ?_
    refine s_cond rfl ?_ ?_
    · intro hb6
      have H := cnd_t H hb6
      refine s_seq ?_
      refine s_reg [0, 1] rfl ?_
      refine o_run ft [0, 1] rfl rfl ?_
      refine o_nil ?_
      refine q_then ?_
      refine s_ret ?_
      refine q_block_r ?_
      refine q_then_r ?_
      cases H
      refine k_nil_sl E8 ?_
      refine k_nil_spare 1 ?_
      exact q_end (rs_2 Tryz.results101 (rv_tmp rfl) (rv_tmp rfl)) ⟨none, 0, rfl, rfl, rfl⟩ [0] rfl 2 rfl [0] rfl 0 rfl
    · intro hb6
      have H := cnd_f H hb6
      refine s_skip ?_
      refine q_block ?_
      refine q_then ?_
      refine s_seq ?_
      refine s_reg [0, 1, 2] rfl ?_
      refine o_pu rfl (ev_build (cs := [.slice none 0 0]) rfl rfl Tryz.zeroValue160 Tryz.runUnderlying160 pl160 (show Instr.fill _ ([.slice none 0 0] : List Value).toArray _ = some _ from fill_nil)) (g0 rfl) rfl rfl ?_
      refine oc (k_box rfl rfl rfl (cs := [.slice none 0 0]) rfl (g0 rfl) rfl rfl ?_)
      intro b7
      refine o_run ft [2] rfl rfl ?_
      refine o_nil ?_
      refine q_then ?_
      refine s_seq ?_
      refine s_reg [0, 1, 2] rfl ?_
      refine o_run ft [0, 1] rfl rfl ?_
      refine k_nil_spare 1 ?_
      refine k_nil_sl E8 ?_
      obtain ⟨r8, Hc9, H⟩ := bind_some' H
      refine oc (k_call (c_field_Writer_Num b7 (⟨[]⟩ : WriterS) none 0 a0_seq 4 r8 Hc9) Tryz.call104 rfl rfl rfl [0] [1, 0] rfl rfl (g0 rfl) rfl rfl ?_)
      rintro _ _ _ ⟨A10, c11, rfl, rfl, rfl⟩
      dsimp only [app]
      refine o_nil ?_
      refine q_then ?_
      refine s_seq ?_
      refine s_reg [0, 1, 2] rfl ?_
      refine o_run ft [0, 1] rfl rfl ?_
      obtain ⟨r12, Hc13, H⟩ := bind_some' H
      refine oc (k_call (c_field_Writer_Raw b7 (⟨r8.b⟩ : WriterS) A10 c11 a1_b A1 c2 156 r12 Hc13) Tryz.call165 rfl rfl rfl [2, 0] [0, 0] rfl rfl (g0 rfl) rfl rfl ?_)
      rintro _ _ _ ⟨A14, c15, rfl, rfl, rfl⟩
      dsimp only [app]
      refine o_nil ?_
      refine q_then ?_
      refine s_seq ?_
      refine s_reg [0, 1, 2, 3, 4] rfl ?_
      refine o_run ft [0] rfl rfl ?_
      obtain ⟨r16, Hc17, H⟩ := bind_some' H
      refine oc (k_call (c_field_Writer_Bytes b7 (⟨r12.b⟩ : WriterS) A14 c15 r16 Hc17) Tryz.call106 rfl rfl rfl [0] [0, 0] rfl rfl (g0 rfl) rfl rfl ?_)
      rintro _ _ _ ⟨A18, c19, rfl, rfl, rfl⟩
      dsimp only [app]
      obtain ⟨r20, Hc21, H⟩ := bind_some' H
      refine oc (k_call (c_dual_Put r16 A18 c19 r20 Hc21) Tryz.call166 rfl rfl rfl [0] [] rfl rfl (g0 rfl) rfl rfl ?_)
      rintro _ _ _ ⟨A22, c23, rfl, rfl, rfl⟩
      dsimp only [app]
      refine o_run ft [3, 4] rfl rfl ?_
      refine o_nil ?_
      refine q_then ?_
      refine s_ret ?_
      cases H
      exact q_end (rs_2 Tryz.results101 (rv_tmp rfl) (rv_tmp rfl)) ⟨A22, c23, rfl, rfl, rfl⟩ [0] rfl 6 rfl [0] rfl 3 rfl

def meta_put (a0_w : WriterS) (a1_i : Img) : Option WriterS :=
(field_Writer_Num (⟨a0_w.b⟩ : WriterS) a1_i.Version (4 : Int)).bind fun r4 =>
(field_Writer_Num (⟨r4.b⟩ : WriterS) a1_i.Size (4 : Int)).bind fun r8 =>
(field_Writer_Raw (⟨r8.b⟩ : WriterS) a1_i.Digest.l (32 : Int)).bind fun r12 =>
some (⟨r12.b⟩ : WriterS)

theorem c_meta_put (a0_wp : Nat) (a0_w : WriterS) (A1 : Option Addr) (c2 : Nat) (a1_i : Img) (r : WriterS) (H : meta_put a0_w a1_i = some r) : Fn Tryz.prog 105 [(.pointer (some ⟨a0_wp, 0, none⟩)), (.agg (Img.cells a1_i).toArray)] [Sl E8 A1 c2 a0_w.b] [At a0_wp 0 [.slice A1 a0_w.b.length c2], Spare A1 a0_w.b.length c2 1] (fun v D' G' => ∃ (A16 : Option Addr) (c17 : Nat), v = (.tuple #[]) ∧ D' = [Sl E8 A16 c17 r.b] ∧ G' = [At a0_wp 0 [.slice A16 r.b.length c17], Spare A16 r.b.length c17 1]) := by
  unfold meta_put at H
  refine fn_of Tryz.func105 rfl Tryz.ntmps105 rfl ?_
  intro w0 D0 G0
  dsimp only [app, initEnv, Nat.zero_add, Nat.reduceAdd]
  refine s_seq ?_
  refine s_reg [0] rfl ?_
  refine oc (k_box rfl rfl rfl (cs := Img.cells a1_i) rfl (g0 rfl) rfl rfl ?_)
  intro b3
  refine o_nil ?_
  refine q_then ?_
  refine s_seq ?_
  refine s_reg [0, 1, 2, 3] rfl ?_
  refine o_run ft [0, 1] rfl rfl ?_
  refine o_ld (hG 0 rfl) rfl (ev_ld1 (j := 0) rfl rfl Tryz.isAgg3 (Img.sub_Version _) rfl) (g0 rfl) rfl rfl ?_
  obtain ⟨r4, Hc5, H⟩ := bind_some' H
  refine oc (k_call (c_field_Writer_Num a0_wp (⟨a0_w.b⟩ : WriterS) A1 c2 a1_i.Version 4 r4 Hc5) Tryz.call104 rfl rfl rfl [0] [1, 1] rfl rfl (g0 rfl) rfl rfl ?_)
  rintro _ _ _ ⟨A6, c7, rfl, rfl, rfl⟩
  dsimp only [app]
  refine o_nil ?_
  refine q_then ?_
  refine s_seq ?_
  refine s_reg [0, 1, 2, 3] rfl ?_
  refine o_run ft [0, 1] rfl rfl ?_
  refine o_ld (hG 2 rfl) rfl (ev_ld1 (j := 1) rfl rfl Tryz.isAgg3 (Img.sub_Size _) rfl) (g0 rfl) rfl rfl ?_
  obtain ⟨r8, Hc9, H⟩ := bind_some' H
  refine oc (k_call (c_field_Writer_Num a0_wp (⟨r4.b⟩ : WriterS) A6 c7 a1_i.Size 4 r8 Hc9) Tryz.call104 rfl rfl rfl [0] [0, 0] rfl rfl (g0 rfl) rfl rfl ?_)
  rintro _ _ _ ⟨A10, c11, rfl, rfl, rfl⟩
  dsimp only [app]
  refine o_nil ?_
  refine q_then ?_
  refine s_reg [0, 1, 2, 3] rfl ?_
  refine o_run ft [0, 1] rfl rfl ?_
  refine o_pu rfl (ev_slice_arr rfl rfl Tryz.runUnderlying45 Tryz.sizeOf5) (g0 rfl) rfl rfl ?_
  refine k_keep 2 rfl ?_
  refine k_ro_sl (f := E8) (cap := 32) a1_i.Digest.l 0 rfl (Img.sub_Digest _) rfl (Nat.le_of_eq (a1_i.Digest).len) (by decide) ?_
  refine k_eq (v' := (.slice (some ⟨b3, 2, none⟩) a1_i.Digest.l.length 32)) 14 rfl (congrArg (fun z => Value.slice (some ⟨b3, 2, none⟩) z 32) (a1_i.Digest).len.symm) ?_
  refine k_spare_full (some ⟨b3, 2, none⟩) a1_i.Digest.l.length 32 1 (a1_i.Digest).len ?_
  obtain ⟨r12, Hc13, H⟩ := bind_some' H
  refine oc (k_call (c_field_Writer_Raw a0_wp (⟨r8.b⟩ : WriterS) A10 c11 a1_i.Digest.l (some ⟨b3, 2, none⟩) 32 32 r12 Hc13) Tryz.call165 rfl rfl rfl [0, 2] [1, 1] rfl rfl (g0 rfl) rfl rfl ?_)
  rintro _ _ _ ⟨A14, c15, rfl, rfl, rfl⟩
  dsimp only [app]
  refine o_nil ?_
  cases H
  exact q_end_n (rs_0 Tryz.results105) ⟨A14, c15, rfl, rfl, rfl⟩ [0] rfl 6 rfl [0, 0] rfl 1 rfl

def field_Reader_Num_l0 (r5 : (List UInt8) × ReaderS) (J11 : UInt64 → Option (Int × ReaderS)) : Nat → (UInt64 × Int) → Option (Int × ReaderS)
  | 0, _ => none
  | k14 + 1, s14 =>
    bif (decide (s14.2 < (r5.1.length : Int))) then (
    chk (0 ≤ s14.2 ∧ s14.2 < r5.1.length) <|
    field_Reader_Num_l0 r5 J11 k14 (((shl64 (s14.1 : UInt64) (8 : UInt64).toNat) ||| (at' 0 r5.1 s14.2).toUInt64), (wrap64 (s14.2 + 1)))) else (
    J11 s14.1)

def field_Reader_Num (a0_r : ReaderS) (a1_size : Int) : Option (Int × ReaderS) :=
bnd (if 0 < (if 8 < a1_size then 8 else a1_size) then (if 8 < a1_size then 8 else a1_size) else 0) fun x3 =>
(field_Reader_take (⟨a0_r.b, a0_r.bad⟩ : ReaderS) x3).bind fun r5 =>
jn (fun (x12 : UInt64) =>
some ((wrap64 (x12.toNat : Int)), (⟨r5.2.b, r5.2.bad⟩ : ReaderS))) fun J11 =>
field_Reader_Num_l0 r5 J11 Fuel (0, 0)

theorem c_field_Reader_Num (a0_rp : Nat) (a0_r : ReaderS) (A1 : Option Addr) (c2 : Nat) (a1_size : Int) (r : Int × ReaderS) (H : field_Reader_Num a0_r a1_size = some r) : Fn Tryz.prog 108 [(.pointer (some ⟨a0_rp, 0, none⟩)), (vi a1_size)] [Sl E8 A1 c2 a0_r.b] [At a0_rp 0 [.slice A1 a0_r.b.length c2, vb a0_r.bad]] (fun v D' G' => ∃ (A19 : Option Addr) (c20 : Nat), v = (vi r.1) ∧ D' = [Sl E8 A19 c20 r.2.b] ∧ G' = [At a0_rp 0 [.slice A19 r.2.b.length c20, vb r.2.bad]]) := by
  unfold field_Reader_Num at H
  refine fn_of Tryz.func108 rfl Tryz.ntmps108 rfl ?_
  intro w0 D0 G0
  dsimp only [app, initEnv, Nat.zero_add, Nat.reduceAdd]
  refine s_seq ?_
  refine s_reg [0] rfl ?_
  refine o_run ft [0] rfl rfl ?_
  refine o_nil ?_
  refine q_then ?_
  refine s_seq ?_
  refine s_reg [0] rfl ?_
  refine o_run ft [0] rfl rfl ?_
  refine o_nil ?_
  refine q_then ?_
  refine s_seq ?_
  refine s_seq ?_
  refine s_reg [0, 1, 2, 3, 4, 5, 6] rfl ?_
  refine o_run ft [0, 1] rfl rfl ?_
  refine o_pu rfl (ev_min rfl rfl rfl) (g0 rfl) rfl rfl ?_
  refine o_pu rfl (ev_max rfl rfl rfl) (g0 rfl) rfl rfl ?_
  obtain ⟨x3, hx4⟩ : ∃ x : Int, x = (if 0 < (if 8 < a1_size then 8 else a1_size) then (if 8 < a1_size then 8 else a1_size) else 0) := ⟨_, rfl⟩
  have H := bnd_eq H hx4
  refine k_eq (v' := vi x3) 11 rfl (by rw [hx4]) ?_
  obtain ⟨r5, Hc6, H⟩ := bind_some' H
  refine oc (k_call (c_field_Reader_take a0_rp (⟨a0_r.b, a0_r.bad⟩ : ReaderS) A1 c2 x3 r5 Hc6) Tryz.call170 rfl rfl rfl [0] [0] rfl rfl (g0 rfl) rfl rfl ?_)
  rintro _ _ _ ⟨A7, c8, A9, c10, rfl, rfl, rfl⟩
  dsimp only [app]
  refine o_pu rfl (ev_len_slice rfl rfl Tryz.runUnderlying22) (g0 rfl) rfl rfl ?_
  refine o_run ft [6] rfl rfl ?_
  refine o_nil ?_
  refine q_then ?_
  refine q_join (fun (x12 : UInt64) (y13 : Unit) => ⟨Sl E8 A9 c10 r5.2.b :: Sl E8 A7 c8 r5.1 :: Sl E8 A1 c2 a0_r.b :: D0, At a0_rp 0 [.slice A9 r5.2.b.length c10, vb r5.2.bad] :: G0, [(5, (v64 x12))]⟩) H ?_ ?_
  · intro x12 y13 H
    dsimp only
    refine q_then ?_
    refine s_seq ?_
    refine s_reg [0, 1, 2] rfl ?_
    refine o_run ft [0] rfl rfl ?_
    refine o_pu rfl (ev_conv rfl rfl (conv_u64_i _ Tryz.runUnderlying178 Tryz.runUnderlying3)) (g0 rfl) rfl rfl ?_
    refine o_run ft [2] rfl rfl ?_
    refine o_nil ?_
    refine q_then ?_
    refine s_ret ?_
    cases H
    exact q_end (rs_1 Tryz.results108 (rv_tmp rfl)) ⟨A9, c10, rfl, rfl, rfl⟩ [0] rfl 3 rfl [0] rfl 0 rfl
  · intro J11 J11h H
    refine s_block ?_
    refine s_loop (k_wk (loop_ind (fun (s14 : UInt64 × Int) (y14 : Unit) => ⟨Sl E8 A9 c10 r5.2.b :: Sl E8 A7 c8 r5.1 :: Sl E8 A1 c2 a0_r.b :: D0, At a0_rp 0 [.slice A9 r5.2.b.length c10, vb r5.2.bad] :: G0, [(5, (v64 s14.1)), (12, (.slice A7 r5.1.length c8)), (13, (vi (r5.1.length : Int))), (14, (vi s14.2))]⟩) (field_Reader_Num_l0 r5 J11) _ (fun _ => rfl) ?_ Fuel (0, 0) () H) [5, 12, 13, 14] [0, 1, 2] 3 [0] 0 rfl rfl rfl)
    intro k14 s14 y14 ih H
    dsimp only
    rw [field_Reader_Num_l0] at H
    refine s_seq ?_
    refine s_reg [0] rfl ?_
    refine o_run ft [0] rfl rfl ?_
    refine o_nil ?_
    refine q_then ?_
    refine s_seq ?_
    refine s_cond rfl ?_ ?_
    · intro hb15
      have H := cnd_t H hb15
      refine s_skip ?_
      refine q_then ?_
      refine s_seq ?_
      refine s_block ?_
      refine s_seq ?_
      refine s_reg [0, 1, 2] rfl ?_
      obtain ⟨hk18, H⟩ := chk_some H
      refine oc (k_idx 0 1 rfl rfl rfl rfl rfl E8_len rfl Tryz.runUnderlying22 Tryz.sizeOf5 hk18 (g0 rfl) rfl rfl ?_)
      intro b16 q17
      refine o_ld (hD 0 rfl) rfl (ev_ld1 (j := 0) rfl rfl Tryz.isAgg5 (sub_nth (j := 0) rfl) rfl) (g0 rfl) rfl rfl ?_
      refine o_run ft [2] rfl rfl ?_
      refine o_nil ?_
      refine q_then ?_
      refine s_reg [0, 1, 2, 3, 4, 5] rfl ?_
      refine o_run ft [0] rfl rfl ?_
      refine o_pu rfl (ev_bin rfl rfl rfl rfl (shl_64 _ 8)) (g0 rfl) rfl rfl ?_
      refine o_run ft [2] rfl rfl ?_
      refine o_pu rfl (ev_conv rfl rfl (conv_u8_u64 _ Tryz.runUnderlying5 Tryz.runUnderlying178)) (g0 rfl) rfl rfl ?_
      refine o_pu rfl (ev_bin rfl rfl rfl rfl (or_64 _ _)) (g0 rfl) rfl rfl ?_
      refine o_run ft [5] rfl rfl ?_
      refine o_nil ?_
      refine q_block ?_
      refine q_then ?_
      refine s_reg [0, 1] rfl ?_
      refine o_run ft [0, 1] rfl rfl ?_
      refine o_nil ?_
      refine q_loop ?_
      exact k_wk (ih (((shl64 (s14.1 : UInt64) (8 : UInt64).toNat) ||| (at' 0 r5.1 s14.2).toUInt64), (wrap64 (s14.2 + 1))) () H) [5, 12, 13, 14] [1, 2, 3] 4 [0] 0 rfl rfl rfl
    · intro hb15
      have H := cnd_f H hb15
      refine s_exit ?_
      refine q_then_x ?_
      refine q_then_x ?_
      refine q_block_x ?_
      exact k_wk (J11h s14.1 () H) [5] [0, 1, 2] 3 [0] 0 rfl rfl rfl

def meta_get (a0_r : ReaderS) : Option (Img × ReaderS) :=
(field_Reader_Num (⟨a0_r.b, a0_r.bad⟩ : ReaderS) (4 : Int)).bind fun r4 =>
(field_Reader_Num (⟨r4.2.b, r4.2.bad⟩ : ReaderS) (4 : Int)).bind fun r9 =>
(field_Reader_Raw (⟨r9.2.b, r9.2.bad⟩ : ReaderS) (32 : Int)).bind fun r13 =>
bnd ({ ({ ((⟨r4.1, 0, (Arr.zero 0 32)⟩ : Img) : Img) with Size := r9.1 } : Img) with Digest := (Arr.cpy (({ ((⟨r4.1, 0, (Arr.zero 0 32)⟩ : Img) : Img) with Size := r9.1 }).Digest) r13.1) }) fun x20 =>
some (x20, (⟨r13.2.b, r13.2.bad⟩ : ReaderS))

theorem c_meta_get (a0_rp : Nat) (a0_r : ReaderS) (A1 : Option Addr) (c2 : Nat) (r : Img × ReaderS) (H : meta_get a0_r = some r) : Fn Tryz.prog 109 [(.pointer (some ⟨a0_rp, 0, none⟩))] [Sl E8 A1 c2 a0_r.b] [At a0_rp 0 [.slice A1 a0_r.b.length c2, vb a0_r.bad]] (fun v D' G' => ∃ (A22 : Option Addr) (c23 : Nat), v = (.agg (Img.cells r.1).toArray) ∧ D' = [Sl E8 A22 c23 r.2.b] ∧ G' = [At a0_rp 0 [.slice A22 r.2.b.length c23, vb r.2.bad]]) := by
  unfold meta_get at H
  refine fn_of Tryz.func109 rfl Tryz.ntmps109 rfl ?_
  intro w0 D0 G0
  dsimp only [app, initEnv, Nat.zero_add, Nat.reduceAdd]
  refine s_seq ?_
  refine s_reg [0] rfl ?_
  refine oc (k_alloc rfl rfl Tryz.zeroValue49 (cs := Img.cells Img.zero) rfl (g0 rfl) rfl rfl ?_)
  intro b3
  refine o_nil ?_
  refine q_then ?_
  refine s_seq ?_
  refine s_reg [0, 1, 2, 3, 4] rfl ?_
  refine o_run ft [0] rfl rfl ?_
  obtain ⟨r4, Hc5, H⟩ := bind_some' H
  refine oc (k_call (c_field_Reader_Num a0_rp (⟨a0_r.b, a0_r.bad⟩ : ReaderS) A1 c2 4 r4 Hc5) Tryz.call108 rfl rfl rfl [0] [1] rfl rfl (g0 rfl) rfl rfl ?_)
  rintro _ _ _ ⟨A6, c7, rfl, rfl, rfl⟩
  dsimp only [app]
  refine o_pu rfl (ev_build (cs := Img.cells (⟨r4.1, 0, (Arr.zero 0 32)⟩ : Img)) rfl rfl Tryz.zeroValue49 Tryz.runUnderlying49 pl49 (show Instr.fill _ (Img.cells Img.zero : List Value).toArray _ = some _ from (fill_cons rfl (s := [vi r4.1]) rfl rfl (Img.set_Version _ r4.1) fill_nil))) (g0 rfl) rfl rfl ?_
  refine oc (k_alloc rfl rfl Tryz.zeroValue49 (cs := Img.cells Img.zero) rfl (g0 rfl) rfl rfl ?_)
  intro b8
  refine oc (k_st (j := 0) rfl rfl rfl rfl (vs := Img.cells (⟨r4.1, 0, (Arr.zero 0 32)⟩ : Img)) rfl (sz (Img.len _) Tryz.sizeOf49) (Img.sc _) 0 rfl (spl_all ((Img.len _).trans (Img.len _).symm)) rfl (g0 rfl) rfl ?_)
  refine o_nil ?_
  refine q_then ?_
  refine s_seq ?_
  refine s_reg [0, 1, 2, 3] rfl ?_
  refine o_run ft [0] rfl rfl ?_
  obtain ⟨r9, Hc10, H⟩ := bind_some' H
  refine oc (k_call (c_field_Reader_Num a0_rp (⟨r4.2.b, r4.2.bad⟩ : ReaderS) A6 c7 4 r9 Hc10) Tryz.call108 rfl rfl rfl [0] [1] rfl rfl (g0 rfl) rfl rfl ?_)
  rintro _ _ _ ⟨A11, c12, rfl, rfl, rfl⟩
  dsimp only [app]
  refine o_run ft [2] rfl rfl ?_
  refine oc (k_st (j := 1) rfl rfl rfl rfl (vs := [vi r9.1]) rfl (sz rfl Tryz.sizeOf3) rfl 1 rfl (Img.set_Size _ r9.1) rfl (g0 rfl) rfl ?_)
  refine o_nil ?_
  refine q_then ?_
  refine s_seq ?_
  refine s_draw mixed [] ?_
  refine a_run ft [0] rfl (fun _ _ _ _ _ h => h) (by kernel_rfl) rfl ?_
  refine a_p1 1 (by kernel_rfl) rfl (ev_slice_arr rfl rfl Tryz.runUnderlying45 Tryz.sizeOf5) (fun _ _ _ h => h) (g0 rfl) rfl rfl ?_
  refine a_run ft [2] rfl (fun _ _ _ _ _ h => h) (by kernel_rfl) rfl ?_
  refine ac 3 (by kernel_rfl) sl_nil ?_
  obtain ⟨r13, Hc14, H⟩ := bind_some' H
  refine k_call (c_field_Reader_Raw a0_rp (⟨r9.2.b, r9.2.bad⟩ : ReaderS) A11 c12 32 r13 Hc14) Tryz.call171 rfl rfl rfl [0] [0] rfl rfl (g0 rfl) rfl rfl ?_
  rintro _ _ _ ⟨A15, c16, A17, c18, rfl, rfl, rfl⟩
  dsimp only [app]
  refine ac 4 (by kernel_rfl) sl_nil ?_
  refine k_copy (xs := (({ ((⟨r4.1, 0, (Arr.zero 0 32)⟩ : Img) : Img) with Size := r9.1 }).Digest).l) (j := 2) rfl rfl rfl rfl Tryz.underlying22 info5 rfl E8_len E8_one 2 rfl 1 rfl (({ ((⟨r4.1, 0, (Arr.zero 0 32)⟩ : Img) : Img) with Size := r9.1 }).Digest).len (Img.sub_Digest _) (Img.set_Digest _ (Arr.cpy (({ ((⟨r4.1, 0, (Arr.zero 0 32)⟩ : Img) : Img) with Size := r9.1 }).Digest) r13.1)) rfl (g0 rfl) rfl rfl ?_
  refine a_done (by kernel_rfl) sl_nil ?_
  refine q_then ?_
  refine s_seq ?_
  refine s_reg [0, 1] rfl ?_
  refine o_ld (hG 2 rfl) rfl (ev_ldN (j := 0) rfl rfl Tryz.isAgg49 (sz (Img.len _) Tryz.sizeOf49) (sub_all _) rfl) (g0 rfl) rfl rfl ?_
  refine oc (k_st (j := 0) rfl rfl rfl rfl (vs := Img.cells ({ ({ ((⟨r4.1, 0, (Arr.zero 0 32)⟩ : Img) : Img) with Size := r9.1 } : Img) with Digest := (Arr.cpy (({ ((⟨r4.1, 0, (Arr.zero 0 32)⟩ : Img) : Img) with Size := r9.1 }).Digest) r13.1) })) rfl (sz (Img.len _) Tryz.sizeOf49) (Img.sc _) 3 rfl (spl_all ((Img.len _).trans (Img.len _).symm)) rfl (g0 rfl) rfl ?_)
  obtain ⟨x20, hx21⟩ : ∃ x, x = ({ ({ ((⟨r4.1, 0, (Arr.zero 0 32)⟩ : Img) : Img) with Size := r9.1 } : Img) with Digest := (Arr.cpy (({ ((⟨r4.1, 0, (Arr.zero 0 32)⟩ : Img) : Img) with Size := r9.1 }).Digest) r13.1) }) := ⟨_, rfl⟩
  have H := bnd_eq H hx21
  refine k_tok 3 (A' := At b3 0 (Img.cells x20)) rfl (by rw [hx21]) ?_
  refine o_nil ?_
  refine q_then ?_
  refine s_ret ?_
  cases H
  exact q_end (rs_1 Tryz.results109 (rv_cell (j := 0) rfl (hG 3 rfl) Tryz.isAgg49 (sz (Img.len _) Tryz.sizeOf49) (sub_all _) rfl)) ⟨A17, c18, rfl, rfl, rfl⟩ [0] rfl 5 rfl [1] rfl 3 rfl

def slices_IndexFunc_f1174_l0 (a0_s : List UInt8) (J3 : Unit → Option Int) : Nat → Int → Option Int
  | 0, _ => none
  | k6 + 1, s6 =>
    bif (decide (s6 < (a0_s.length : Int))) then (
    chk (0 ≤ s6 ∧ s6 < a0_s.length) <|
    (meta_behind_1 (at' 0 a0_s s6)).bind fun r11 =>
    bif r11 then (
    some s6) else (
    slices_IndexFunc_f1174_l0 a0_s J3 k6 (wrap64 (s6 + 1)))) else (
    J3 ())

def slices_IndexFunc_f1174 (a0_s : List UInt8) : Option Int :=
jn (fun (x4 : Unit) =>
some (-1)) fun J3 =>
slices_IndexFunc_f1174_l0 a0_s J3 Fuel 0

theorem c_slices_IndexFunc_f1174 (a0_s : List UInt8) (A1 : Option Addr) (c2 : Nat) (r : Int) (H : slices_IndexFunc_f1174 a0_s = some r) : Fn Tryz.prog 210 [(.slice A1 a0_s.length c2), (.func (.func 174) #[] #[])] [Sl E8 A1 c2 a0_s] [] (fun v D' G' => v = (vi r) ∧ D' = [] ∧ G' = []) := by
  unfold slices_IndexFunc_f1174 at H
  refine fn_of Tryz.func210 rfl Tryz.ntmps210 rfl ?_
  intro w0 D0 G0
  dsimp only [app, initEnv, Nat.zero_add, Nat.reduceAdd]
  refine s_seq ?_
  refine s_reg [0] rfl ?_
  refine o_run ft [0] rfl rfl ?_
  refine o_nil ?_
  refine q_then ?_
  refine s_seq ?_
  refine s_seq ?_
  refine s_reg [0, 1, 2] rfl ?_
  refine o_run ft [0] rfl rfl ?_
  refine o_pu rfl (ev_len_slice rfl rfl Tryz.runUnderlying22) (g0 rfl) rfl rfl ?_
  refine o_run ft [2] rfl rfl ?_
  refine o_nil ?_
  refine q_then ?_
  refine q_join (fun (x4 : Unit) (y5 : Unit) => ⟨Sl E8 A1 c2 a0_s :: D0, G0, []⟩) H ?_ ?_
  · intro x4 y5 H
    dsimp only
    refine q_then ?_
    refine s_seq ?_
    refine s_reg [0] rfl ?_
    refine o_run ft [0] rfl rfl ?_
    refine o_nil ?_
    refine q_then ?_
    refine s_ret ?_
    cases H
    exact q_end (rs_1 Tryz.results210 (rv_tmp rfl)) ⟨rfl, rfl, rfl⟩ [] rfl 1 rfl [] rfl 0 rfl
  · intro J3 J3h H
    refine s_block ?_
    refine s_loop (k_wk (loop_ind (fun (s6 : Int) (y6 : Unit) => ⟨Sl E8 A1 c2 a0_s :: D0, G0, [(0, (.slice A1 a0_s.length c2)), (1, (.func (.func 174) #[] #[])), (7, (vi (a0_s.length : Int))), (8, (vi s6))]⟩) (slices_IndexFunc_f1174_l0 a0_s J3) _ (fun _ => rfl) ?_ Fuel 0 () H) [0, 1, 7, 8] [0] 1 [] 0 rfl rfl rfl)
    intro k6 s6 y6 ih H
    dsimp only
    rw [slices_IndexFunc_f1174_l0] at H
    refine s_seq ?_
    refine s_reg [0] rfl ?_
    refine o_run ft [0] rfl rfl ?_
    refine o_nil ?_
    refine q_then ?_
    refine s_seq ?_
    refine s_cond rfl ?_ ?_
    · intro hb7
      have H := cnd_t H hb7
      refine s_skip ?_
      refine q_then ?_
      refine s_seq ?_
      refine s_block ?_
      refine s_seq ?_
      refine s_reg [0, 1] rfl ?_
      refine o_run ft [0, 1] rfl rfl ?_
      refine o_nil ?_
      refine q_then ?_
      refine s_seq ?_
      refine s_reg [0, 1, 2, 3, 4, 5] rfl ?_
      refine o_run ft [0, 1, 2] rfl rfl ?_
      obtain ⟨hk10, H⟩ := chk_some H
      refine oc (k_idx 0 0 rfl rfl rfl rfl rfl E8_len rfl Tryz.runUnderlying22 Tryz.sizeOf5 hk10 (g0 rfl) rfl rfl ?_)
      intro b8 q9
      refine o_ld (hD 0 rfl) rfl (ev_ld1 (j := 0) rfl rfl Tryz.isAgg5 (sub_nth (j := 0) rfl) rfl) (g0 rfl) rfl rfl ?_
      obtain ⟨r11, Hc12, H⟩ := bind_some' H
      refine oc (k_callv (c_meta_behind_1 (at' 0 a0_s s6) r11 Hc12) Tryz.call174 rfl rfl rfl rfl [] [] rfl rfl (g0 rfl) rfl rfl ?_)
      rintro _ _ _ ⟨rfl, rfl, rfl⟩
      dsimp only [app]
      refine o_nil ?_
      refine q_then ?_
      refine s_cond rfl ?_ ?_
      · intro hb13
        have H := cnd_t H hb13
        refine s_seq ?_
        refine s_reg [0, 1] rfl ?_
        refine o_run ft [0, 1] rfl rfl ?_
        refine o_nil ?_
        refine q_then ?_
        refine s_ret ?_
        refine q_block_r ?_
        refine q_then_r ?_
        refine q_then_r ?_
        refine q_block_r ?_
        refine q_then_r ?_
        cases H
        exact q_end (rs_1 Tryz.results210 (rv_tmp rfl)) ⟨rfl, rfl, rfl⟩ [] rfl 2 rfl [] rfl 0 rfl
      · intro hb13
        have H := cnd_f H hb13
        refine s_skip ?_
        refine q_block ?_
        refine q_then ?_
        refine s_reg [0, 1] rfl ?_
        refine o_run ft [0, 1] rfl rfl ?_
        refine o_nil ?_
        refine q_loop ?_
        exact k_wk (ih (wrap64 (s6 + 1)) () H) [0, 1, 7, 8] [1] 2 [] 0 rfl rfl rfl
    · intro hb7
      have H := cnd_f H hb7
      refine s_exit ?_
      refine q_then_x ?_
      refine q_then_x ?_
      refine q_block_x ?_
      exact k_wk (J3h () () H) [] [0] 1 [] 0 rfl rfl rfl

def slices_ContainsFunc_f1174 (a0_s : List UInt8) : Option Bool :=
(slices_IndexFunc_f1174 a0_s).bind fun r3 =>
some (decide (r3 ≥ 0))

theorem c_slices_ContainsFunc_f1174 (a0_s : List UInt8) (A1 : Option Addr) (c2 : Nat) (r : Bool) (H : slices_ContainsFunc_f1174 a0_s = some r) : Fn Tryz.prog 173 [(.slice A1 a0_s.length c2), (.func (.func 174) #[] #[])] [Sl E8 A1 c2 a0_s] [] (fun v D' G' => v = (vb r) ∧ D' = [] ∧ G' = []) := by
  unfold slices_ContainsFunc_f1174 at H
  refine fn_of Tryz.func173 rfl Tryz.ntmps173 rfl ?_
  intro w0 D0 G0
  dsimp only [app, initEnv, Nat.zero_add, Nat.reduceAdd]
  refine s_seq ?_
  refine s_reg [0] rfl ?_
  refine o_run ft [0] rfl rfl ?_
  refine o_nil ?_
  refine q_then ?_
  refine s_seq ?_
  refine s_reg [0, 1, 2, 3, 4] rfl ?_
  refine o_run ft [0, 1] rfl rfl ?_
  obtain ⟨r3, Hc4, H⟩ := bind_some' H
  refine oc (k_call (c_slices_IndexFunc_f1174 a0_s A1 c2 r3 Hc4) Tryz.call210 rfl rfl rfl [0] [] rfl rfl (g0 rfl) rfl rfl ?_)
  rintro _ _ _ ⟨rfl, rfl, rfl⟩
  dsimp only [app]
  refine o_run ft [3, 4] rfl rfl ?_
  refine o_nil ?_
  refine q_then ?_
  refine s_ret ?_
  cases H
  exact q_end (rs_1 Tryz.results173 (rv_tmp rfl)) ⟨rfl, rfl, rfl⟩ [] rfl 1 rfl [] rfl 0 rfl

def meta_behind_l0 (J3 : (List UInt8 × Bool) → Option (Bool × ReaderS)) : Nat → (List UInt8 × Bool) → Option (Bool × ReaderS)
  | 0, _ => none
  | k6 + 1, s6 =>
    (field_Reader_Left (⟨s6.1, s6.2⟩ : ReaderS)).bind fun r7 =>
    bif (decide (r7 > 0)) then (
    (field_Reader_Left (⟨s6.1, s6.2⟩ : ReaderS)).bind fun r10 =>
    (field_Reader_Raw (⟨s6.1, s6.2⟩ : ReaderS) r10).bind fun r12 =>
    (slices_ContainsFunc_f1174 r12.1).bind fun r18 =>
    bif r18 then (
    some (false, (⟨r12.2.b, r12.2.bad⟩ : ReaderS))) else (
    meta_behind_l0 J3 k6 (r12.2.b, r12.2.bad))) else (
    J3 (s6.1, s6.2))

def meta_behind (a0_r : ReaderS) : Option (Bool × ReaderS) :=
jn (fun (x4 : List UInt8 × Bool) =>
some (true, (⟨x4.1, x4.2⟩ : ReaderS))) fun J3 =>
meta_behind_l0 J3 Fuel (a0_r.b, a0_r.bad)

theorem c_meta_behind (a0_rp : Nat) (a0_r : ReaderS) (A1 : Option Addr) (c2 : Nat) (r : Bool × ReaderS) (H : meta_behind a0_r = some r) : Fn Tryz.prog 111 [(.pointer (some ⟨a0_rp, 0, none⟩))] [Sl E8 A1 c2 a0_r.b] [At a0_rp 0 [.slice A1 a0_r.b.length c2, vb a0_r.bad]] (fun v D' G' => ∃ (A21 : Option Addr) (c22 : Nat), v = (vb r.1) ∧ D' = [Sl E8 A21 c22 r.2.b] ∧ G' = [At a0_rp 0 [.slice A21 r.2.b.length c22, vb r.2.bad]]) := by
  unfold meta_behind at H
  refine fn_of Tryz.func111 rfl Tryz.ntmps111 rfl ?_
  intro w0 D0 G0
  dsimp only [app, initEnv, Nat.zero_add, Nat.reduceAdd]
  refine s_seq ?_
  refine s_reg [0] rfl ?_
  refine o_run ft [0] rfl rfl ?_
  refine o_nil ?_
  refine q_then ?_
  refine s_seq ?_
  refine q_join (fun (x4 : List UInt8 × Bool) (y5 : Option Addr × Nat) => ⟨Sl E8 y5.1 y5.2 x4.1 :: Sl E8 A1 c2 a0_r.b :: D0, At a0_rp 0 [.slice y5.1 x4.1.length y5.2, vb x4.2] :: G0, []⟩) H ?_ ?_
  · intro x4 y5 H
    dsimp only
    refine q_then ?_
    refine s_seq ?_
    refine s_reg [0] rfl ?_
    refine o_run ft [0] rfl rfl ?_
    refine o_nil ?_
    refine q_then ?_
    refine s_ret ?_
    cases H
    exact q_end (rs_1 Tryz.results111 (rv_tmp rfl)) ⟨y5.1, y5.2, rfl, rfl, rfl⟩ [0] rfl 2 rfl [0] rfl 0 rfl
  · intro J3 J3h H
    refine s_block ?_
    refine s_loop (k_wk (loop_ind (fun (s6 : List UInt8 × Bool) (y6 : Option Addr × Nat) => ⟨Sl E8 y6.1 y6.2 s6.1 :: Sl E8 A1 c2 a0_r.b :: D0, At a0_rp 0 [.slice y6.1 s6.1.length y6.2, vb s6.2] :: G0, [(0, (.pointer (some ⟨a0_rp, 0, none⟩)))]⟩) (meta_behind_l0 J3) _ (fun _ => rfl) ?_ Fuel (a0_r.b, a0_r.bad) (A1, c2) H) [0] [0, 0] 1 [0] 0 rfl rfl rfl)
    intro k6 s6 y6 ih H
    dsimp only
    rw [meta_behind_l0] at H
    refine s_seq ?_
    refine s_seq ?_
    refine s_reg [0, 1, 2] rfl ?_
    refine o_run ft [0] rfl rfl ?_
    obtain ⟨r7, Hc8, H⟩ := bind_some' H
    refine oc (k_call (c_field_Reader_Left a0_rp (⟨s6.1, s6.2⟩ : ReaderS) y6.1 y6.2 r7 Hc8) Tryz.call172 rfl rfl rfl [0] [0] rfl rfl (g0 rfl) rfl rfl ?_)
    rintro _ _ _ ⟨rfl, rfl, rfl⟩
    dsimp only [app]
    refine o_run ft [2] rfl rfl ?_
    refine o_nil ?_
    refine q_then ?_
    refine s_cond rfl ?_ ?_
    · intro hb9
      have H := cnd_t H hb9
      refine s_skip ?_
      refine q_then ?_
      refine s_block ?_
      refine s_seq ?_
      refine s_reg [0, 1, 2, 3, 4] rfl ?_
      refine o_run ft [0, 1] rfl rfl ?_
      obtain ⟨r10, Hc11, H⟩ := bind_some' H
      refine oc (k_call (c_field_Reader_Left a0_rp (⟨s6.1, s6.2⟩ : ReaderS) y6.1 y6.2 r10 Hc11) Tryz.call172 rfl rfl rfl [0] [0] rfl rfl (g0 rfl) rfl rfl ?_)
      rintro _ _ _ ⟨rfl, rfl, rfl⟩
      dsimp only [app]
      obtain ⟨r12, Hc13, H⟩ := bind_some' H
      refine oc (k_call (c_field_Reader_Raw a0_rp (⟨s6.1, s6.2⟩ : ReaderS) y6.1 y6.2 r10 r12 Hc13) Tryz.call171 rfl rfl rfl [0] [0] rfl rfl (g0 rfl) rfl rfl ?_)
      rintro _ _ _ ⟨A14, c15, A16, c17, rfl, rfl, rfl⟩
      dsimp only [app]
      obtain ⟨r18, Hc19, H⟩ := bind_some' H
      refine oc (k_call (c_slices_ContainsFunc_f1174 r12.1 A14 c15 r18 Hc19) Tryz.call173 rfl rfl rfl [1] [] rfl rfl (g0 rfl) rfl rfl ?_)
      rintro _ _ _ ⟨rfl, rfl, rfl⟩
      dsimp only [app]
      refine o_nil ?_
      refine q_then ?_
      refine s_cond rfl ?_ ?_
      · intro hb20
        have H := cnd_t H hb20
        refine s_seq ?_
        refine s_reg [0] rfl ?_
        refine o_run ft [0] rfl rfl ?_
        refine o_nil ?_
        refine q_then ?_
        refine s_ret ?_
        refine q_block_r ?_
        refine q_then_r ?_
        refine q_block_r ?_
        refine q_then_r ?_
        cases H
        exact q_end (rs_1 Tryz.results111 (rv_tmp rfl)) ⟨A16, c17, rfl, rfl, rfl⟩ [0] rfl 4 rfl [1] rfl 1 rfl
      · intro hb20
        have H := cnd_f H hb20
        refine s_skip ?_
        refine q_block ?_
        refine q_loop ?_
        exact k_wk (ih (r12.2.b, r12.2.bad) (A16, c17) H) [0] [0, 3] 4 [1] 1 rfl rfl rfl
    · intro hb9
      have H := cnd_f H hb9
      refine s_exit ?_
      refine q_then_x ?_
      refine q_then_x ?_
      refine q_block_x ?_
      exact k_wk (J3h (s6.1, s6.2) (y6.1, y6.2) H) [] [0, 1] 2 [0] 0 rfl rfl rfl

def area_Area_within (a0_a : AreaS) (a1_sector : Int) (a2_at : Int) (a3_n : Int) : Option Bool :=
(area_Area_is a0_a a1_sector).bind fun r1 =>
bnd r1 fun b3 =>
jn (fun x6 =>
bnd x6 fun b7 =>
jn (fun x10 =>
bnd x10 fun b11 =>
jn (fun x14 =>
some x14) fun J13 =>
bif b11 then (
J13 (decide (a3_n ≤ (wrap64 (320 - a2_at))))) else
J13 false) fun J9 =>
bif b7 then (
J9 (decide (a2_at ≤ 320))) else
J9 false) fun J5 =>
bif b3 then (
J5 (decide (a2_at ≥ 0))) else
J5 false

theorem c_area_Area_within (fp0 : Nat) (a0_ap : Nat) (a0_a : AreaS) (a1_sector : Int) (a2_at : Int) (a3_n : Int) (r : Bool) (H : area_Area_within a0_a a1_sector a2_at a3_n = some r) : Fn Tryz.prog 150 [(.pointer (some ⟨a0_ap, 0, none⟩)), (vi a1_sector), (vi a2_at), (vi a3_n)] [] [AreaT fp0 () a0_ap a0_a] (fun v D' G' => v = (vb r) ∧ D' = [] ∧ G' = [AreaT fp0 () a0_ap a0_a]) := by
  unfold area_Area_within at H
  refine fn_of Tryz.func150 rfl Tryz.ntmps150 rfl ?_
  intro w0 D0 G0
  dsimp only [app, initEnv, Nat.zero_add, Nat.reduceAdd]
  refine s_seq ?_
  refine s_reg [0] rfl ?_
  refine o_run ft [0] rfl rfl ?_
  refine o_nil ?_
  refine q_then ?_
  refine s_seq ?_
  refine s_reg [0, 1, 2, 3, 4, 5, 6, 7, 8, 9, 10, 11, 12, 13, 14, 15, 16, 17] rfl ?_
  refine o_run ft [0, 1] rfl rfl ?_
  obtain ⟨r1, Hc2, H⟩ := bind_some' H
  refine oc (k_call (c_area_Area_is fp0 a0_ap a0_a a1_sector r1 Hc2) Tryz.call159 rfl rfl rfl [] [0] rfl rfl (g0 rfl) rfl rfl ?_)
  rintro _ _ _ ⟨rfl, rfl, rfl⟩
  dsimp only [app]
  refine o_run ft [3] rfl rfl ?_
  refine k_name 12 rfl ?_
  intro b3 hb4
  have H := bnd_eq H hb4
  refine o_jb 15 [7, 8, 9, 10, 11, 12, 13, 14, 15, 16, 17] [0, 1, 2, 3, 8, 9, 10, 11, 12] H rfl ?_ ?_
  · intro x6 H
    refine o_run ft [7] rfl rfl ?_
    refine k_name 16 rfl ?_
    intro b7 hb8
    have H := bnd_eq H hb8
    refine o_jb 19 [11, 12, 13, 14, 15, 16, 17] [0, 1, 2, 3, 8, 9, 10, 11, 12, 15, 16] H rfl ?_ ?_
    · intro x10 H
      refine o_run ft [11] rfl rfl ?_
      refine k_name 20 rfl ?_
      intro b11 hb12
      have H := bnd_eq H hb12
      refine o_jb 25 [17] [0, 1, 2, 3, 8, 9, 10, 11, 12, 15, 16, 19, 20] H rfl ?_ ?_
      · intro x14 H
        refine o_run ft [17] rfl rfl ?_
        refine o_nil ?_
        refine q_then ?_
        refine s_ret ?_
        cases H
        exact q_end (rs_1 Tryz.results150 (rv_tmp rfl)) ⟨rfl, rfl, rfl⟩ [] rfl 0 rfl [0] rfl 0 rfl
      · intro J13 J13h H
        cases b11 with
        | true =>
          rw [cond_true] at H
          refine o_run ft [12, 13, 14, 15, 16] rfl rfl ?_
          exact k_wk (J13h (decide (a3_n ≤ (wrap64 (320 - a2_at)))) H) [25, 0, 1, 2, 3, 8, 9, 10, 11, 12, 15, 16, 19, 20] [] 0 [0] 0 rfl rfl rfl
        | false =>
          rw [cond_false] at H
          refine o_gnot rfl rfl rfl rfl rfl rfl rfl rfl ?_
          refine o_gnot rfl rfl rfl rfl rfl rfl rfl rfl ?_
          refine o_gnot rfl rfl rfl rfl rfl rfl rfl rfl ?_
          refine o_gnot rfl rfl rfl rfl rfl rfl rfl rfl ?_
          refine o_run ft [16] rfl rfl ?_
          exact k_wk (J13h false H) [25, 0, 1, 2, 3, 8, 9, 10, 11, 12, 15, 16, 19, 20] [] 0 [0] 0 rfl rfl rfl
    · intro J9 J9h H
      cases b7 with
      | true =>
        rw [cond_true] at H
        refine o_run ft [8, 9, 10] rfl rfl ?_
        exact k_wk (J9h (decide (a2_at ≤ 320)) H) [19, 0, 1, 2, 3, 8, 9, 10, 11, 12, 15, 16] [] 0 [0] 0 rfl rfl rfl
      | false =>
        rw [cond_false] at H
        refine o_gnot rfl rfl rfl rfl rfl rfl rfl rfl ?_
        refine o_gnot rfl rfl rfl rfl rfl rfl rfl rfl ?_
        refine o_run ft [10] rfl rfl ?_
        exact k_wk (J9h false H) [19, 0, 1, 2, 3, 8, 9, 10, 11, 12, 15, 16] [] 0 [0] 0 rfl rfl rfl
  · intro J5 J5h H
    cases b3 with
    | true =>
      rw [cond_true] at H
      refine o_run ft [4, 5, 6] rfl rfl ?_
      exact k_wk (J5h (decide (a2_at ≥ 0)) H) [15, 0, 1, 2, 3, 8, 9, 10, 11, 12] [] 0 [0] 0 rfl rfl rfl
    | false =>
      rw [cond_false] at H
      refine o_gnot rfl rfl rfl rfl rfl rfl rfl rfl ?_
      refine o_gnot rfl rfl rfl rfl rfl rfl rfl rfl ?_
      refine o_run ft [6] rfl rfl ?_
      exact k_wk (J5h false H) [15, 0, 1, 2, 3, 8, 9, 10, 11, 12] [] 0 [0] 0 rfl rfl rfl

def turn_Right (a0_x : UInt32) (a1_n : Int) : Option UInt32 :=
(math_bits_RotateLeft32 a0_x (wrap64 (-a1_n))).bind fun r1 =>
some r1

theorem c_turn_Right (a0_x : UInt32) (a1_n : Int) (r : UInt32) (H : turn_Right a0_x a1_n = some r) : Fn Tryz.prog 225 [(v32 a0_x), (vi a1_n)] [] [] (fun v D' G' => v = (v32 r) ∧ D' = [] ∧ G' = []) := by
  unfold turn_Right at H
  refine fn_of Tryz.func225 rfl Tryz.ntmps225 rfl ?_
  intro w0 D0 G0
  dsimp only [app, initEnv, Nat.zero_add, Nat.reduceAdd]
  refine s_seq ?_
  refine s_reg [0] rfl ?_
  refine o_run ft [0] rfl rfl ?_
  refine o_nil ?_
  refine q_then ?_
  refine s_seq ?_
  refine s_reg [0, 1, 2, 3, 4] rfl ?_
  refine o_run ft [0, 1] rfl rfl ?_
  refine o_pu rfl (ev_un rfl rfl (neg_i _)) (g0 rfl) rfl rfl ?_
  obtain ⟨r1, Hc2, H⟩ := bind_some' H
  refine oc (k_call (c_math_bits_RotateLeft32 a0_x (wrap64 (-a1_n)) r1 Hc2) Tryz.call230 rfl rfl rfl [] [] rfl rfl (g0 rfl) rfl rfl ?_)
  rintro _ _ _ ⟨rfl, rfl, rfl⟩
  dsimp only [app]
  refine o_run ft [4] rfl rfl ?_
  refine o_nil ?_
  refine q_then ?_
  refine s_ret ?_
  cases H
  exact q_end (rs_1 Tryz.results225 (rv_tmp rfl)) ⟨rfl, rfl, rfl⟩ [] rfl 0 rfl [] rfl 0 rfl

def tenant_Tenant_Active_n0 : Option (List UInt8) :=
some []

theorem c_tenant_Tenant_Active_n0 (r : (List UInt8)) (H : tenant_Tenant_Active_n0  = some r) : Fn Tryz.prog 18 [(.pointer none)] [] [] (fun v D' G' => ∃ (A1 : Option Addr) (c2 : Nat), v = (.slice A1 r.length c2) ∧ D' = [Sl E8 A1 c2 r] ∧ G' = [Spare A1 r.length c2 1]) := by
  unfold tenant_Tenant_Active_n0 at H
  refine fn_of Tryz.func18 rfl Tryz.ntmps18 rfl ?_
  intro w0 D0 G0
  dsimp only [app, initEnv, Nat.zero_add, Nat.reduceAdd]
  refine s_seq ?_
  refine s_reg [0] rfl ?_
  refine o_run ft [0] rfl rfl ?_
  refine o_nil ?_
  refine q_then ?_
  refine s_seq ?_
  refine s_seq ?_
  refine s_reg [0, 1] rfl ?_
  refine o_run ft [0] rfl rfl ?_
  refine o_pu rfl (ev_bin rfl rfl rfl rfl (eql_ptr_nn Tryz.runUnderlying33)) (g0 rfl) rfl rfl ?_
  refine o_nil ?_
  refine q_then ?_
  refine s_cond_t rfl ?_
  refine s_seq ?_
  refine s_reg [0] rfl ?_
  refine o_run ft [0] rfl rfl ?_
  refine o_nil ?_
  refine q_then ?_
  refine s_ret ?_
  refine q_then_r ?_
  cases H
  refine k_nil_sl E8 ?_
  refine k_nil_spare 1 ?_
  exact q_end (rs_1 Tryz.results18 (rv_tmp rfl)) ⟨none, 0, rfl, rfl, rfl⟩ [0] rfl 1 rfl [0] rfl 0 rfl

end Go.Proofs.YtpdoioeckiiegaaGreatDoor.Wl
