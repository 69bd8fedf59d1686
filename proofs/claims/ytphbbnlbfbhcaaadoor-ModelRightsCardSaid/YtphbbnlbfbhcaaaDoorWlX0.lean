import Derived.Test.YtphbbnlbfbhcaaaDoorWlW
set_option linter.unusedSimpArgs false
set_option linter.unusedVariables false
set_option maxRecDepth 10000
namespace Go.Proofs.YtphbbnlbfbhcaaaDoor.Wl
open Go.RowKit Go.Proofs
def model_Model_Do_n0 (a1_q : Req) : Option RespS :=
some (⟨1, 0, 0⟩ : RespS)

theorem c_model_Model_Do_n0 (a1_q : Req) (A1 : Option Addr) (c2 : Nat) (r : RespS) (H : model_Model_Do_n0 a1_q = some r) : Fn Tryd.prog 17 [(.pointer none), (.agg ([vi a1_q.Kind, vi a1_q.N, .slice A1 a1_q.Bytes.length c2]).toArray)] [Sl E8 A1 c2 a1_q.Bytes] [] (fun v D' G' => v = (.agg (RespS.cells r).toArray) ∧ D' = [] ∧ G' = []) := by
  unfold model_Model_Do_n0 at H
  refine fn_of Tryd.func17 rfl Tryd.ntmps17 rfl ?_
  intro w0 D0 G0
  dsimp only [app, initEnv, Nat.zero_add, Nat.reduceAdd]
  refine s_seq ?_
  refine s_reg [0, 1] rfl ?_
  refine oc (k_box rfl rfl rfl (cs := [vi a1_q.Kind, vi a1_q.N, .slice A1 a1_q.Bytes.length c2]) rfl (g0 rfl) rfl rfl ?_)
  intro b3
  refine oc (k_alloc rfl rfl Tryd.zeroValue48 (cs := RespS.cells RespS.zero) rfl (g0 rfl) rfl rfl ?_)
  intro b4
  refine o_nil ?_
  refine q_then ?_
  refine s_seq ?_
  refine s_seq ?_
  refine s_reg [0, 1] rfl ?_
  refine o_pu rfl (ev_move rfl rfl) (g0 rfl) rfl rfl ?_
  refine o_pu rfl (ev_bin rfl rfl rfl rfl (eql_ptr_nn Tryd.runUnderlying43)) (g0 rfl) rfl rfl ?_
  refine o_nil ?_
  refine q_then ?_
  refine s_cond_t rfl ?_
  refine s_seq ?_
  refine s_reg [0, 1] rfl ?_
  refine o_pu rfl (ev_build (cs := RespS.cells (⟨1, 0, 0⟩ : RespS)) rfl rfl Tryd.zeroValue48 Tryd.runUnderlying48 pl48 (show Instr.fill _ (RespS.cells RespS.zero : List Value).toArray _ = some _ from (fill_cons rfl (s := [vi 1]) rfl rfl (RespS.set_Err _ 1) fill_nil))) (g0 rfl) rfl rfl ?_
  refine oc (k_st (j := 0) rfl rfl rfl rfl (vs := RespS.cells (⟨1, 0, 0⟩ : RespS)) rfl (sz (RespS.len _) Tryd.sizeOf48) (RespS.sc _) 0 rfl (spl_all ((RespS.len _).trans (RespS.len _).symm)) rfl (g0 rfl) rfl ?_)
  refine o_nil ?_
  refine q_then ?_
  refine s_ret ?_
  refine q_then_r ?_
  cases H
  exact q_end (rs_1 Tryd.results17 (rv_cell (j := 0) rfl (hG 0 rfl) Tryd.isAgg48 (sz (RespS.len _) Tryd.sizeOf48) (sub_all _) rfl)) ⟨rfl, rfl, rfl⟩ [] rfl 1 rfl [] rfl 2 rfl

def law24_num (a0_e : Int) : Option Int :=
some a0_e

theorem c_law24_num (a0_e : Int) (r : Int) (H : law24_num a0_e = some r) : Fn Tryd.prog 27 [(vi a0_e)] [] [] (fun v D' G' => v = (vi r) ∧ D' = [] ∧ G' = []) := by
  unfold law24_num at H
  refine fn_of Tryd.func27 rfl Tryd.ntmps27 rfl ?_
  intro w0 D0 G0
  dsimp only [app, initEnv, Nat.zero_add, Nat.reduceAdd]
  refine s_seq ?_
  refine s_reg [0] rfl ?_
  refine o_pu rfl (ev_assign rfl rfl) (g0 rfl) rfl rfl ?_
  refine o_nil ?_
  refine q_then ?_
  refine s_seq ?_
  refine s_reg [0, 1] rfl ?_
  refine o_pu rfl (ev_move rfl rfl) (g0 rfl) rfl rfl ?_
  refine o_pu rfl (ev_assign rfl rfl) (g0 rfl) rfl rfl ?_
  refine o_nil ?_
  refine q_then ?_
  refine s_ret ?_
  cases H
  exact q_end (rs_1 Tryd.results27 (rv_tmp rfl)) ⟨rfl, rfl, rfl⟩ [] rfl 0 rfl [] rfl 0 rfl

def caps_May (a0_c : CapS) (a1_kind : Int) : Option Bool :=
bnd (decide (a1_kind ≥ 1)) fun b2 =>
jn (fun x5 =>
bnd x5 fun b6 =>
jn (fun x9 =>
some x9) fun J8 =>
bif b6 then (
chk (decide (a1_kind < 0) = false) <|
J8 ((iand (ishr a0_c.Rights a1_kind) 1) == 1)) else
J8 false) fun J4 =>
bif b2 then (
J4 (decide (a1_kind ≤ 9))) else
J4 false

theorem c_caps_May (a0_c : CapS) (a1_kind : Int) (r : Bool) (H : caps_May a0_c a1_kind = some r) : Fn Tryd.prog 33 [(.agg (CapS.cells a0_c).toArray), (vi a1_kind)] [] [] (fun v D' G' => v = (vb r) ∧ D' = [] ∧ G' = []) := by
  unfold caps_May at H
  refine fn_of Tryd.func33 rfl Tryd.ntmps33 rfl ?_
  intro w0 D0 G0
  dsimp only [app, initEnv, Nat.zero_add, Nat.reduceAdd]
  refine s_seq ?_
  refine s_reg [0, 1] rfl ?_
  refine oc (k_box rfl rfl rfl (cs := CapS.cells a0_c) rfl (g0 rfl) rfl rfl ?_)
  intro b1
  refine o_pu rfl (ev_assign rfl rfl) (g0 rfl) rfl rfl ?_
  refine o_nil ?_
  refine q_then ?_
  refine s_seq ?_
  refine s_reg [0, 1, 2, 3, 4, 5, 6, 7, 8, 9, 10, 11, 12, 13, 14] rfl ?_
  refine o_pu rfl (ev_move rfl rfl) (g0 rfl) rfl rfl ?_
  refine o_pu rfl (ev_bin rfl rfl rfl rfl (geq_i _ 1)) (g0 rfl) rfl rfl ?_
  refine o_pu rfl (ev_move rfl rfl) (g0 rfl) rfl rfl ?_
  refine k_name 7 rfl ?_
  intro b2 hb3
  have H := bnd_eq H hb3
  refine o_jb 10 [6, 7, 8, 9, 10, 11, 12, 13, 14] [0, 1, 2, 4, 5, 6, 7] H rfl ?_ ?_
  · intro x5 H
    refine o_pu rfl (ev_move rfl rfl) (g0 rfl) rfl rfl ?_
    refine k_name 11 rfl ?_
    intro b6 hb7
    have H := bnd_eq H hb7
    refine o_jb 18 [14] [0, 1, 2, 4, 5, 6, 7, 10, 11] H rfl ?_ ?_
    · intro x9 H
      refine o_pu rfl (ev_assign rfl rfl) (g0 rfl) rfl rfl ?_
      refine o_nil ?_
      refine q_then ?_
      refine s_ret ?_
      cases H
      exact q_end (rs_1 Tryd.results33 (rv_tmp rfl)) ⟨rfl, rfl, rfl⟩ [] rfl 0 rfl [] rfl 1 rfl
    · intro J8 H
      cases b6 with
      | true =>
        rw [cond_true] at H
        refine o_pu rfl (ev_fieldAddr rfl rfl Tryd.runUnderlying82 rfl Tryd.sizeOf3 rfl rfl) (g1 rfl rfl rfl rfl) rfl rfl ?_
        refine o_ld (hG 0 rfl) rfl (ev_ld1 (j := 0) rfl rfl Tryd.isAgg3 (CapS.sub_Rights _) rfl) (g1 rfl rfl rfl rfl) rfl rfl ?_
        refine o_pu rfl (ev_move rfl rfl) (g1 rfl rfl rfl rfl) rfl rfl ?_
        obtain ⟨hk10, H⟩ := chk_some H
        refine o_pu rfl (ev_bin rfl rfl rfl rfl (shr_i _ _ hk10)) (g1 rfl rfl rfl rfl) rfl rfl ?_
        refine o_pu rfl (ev_bin rfl rfl rfl rfl (and_i _ 1)) (g1 rfl rfl rfl rfl) rfl rfl ?_
        refine o_pu rfl (ev_bin rfl rfl rfl rfl (eql_i _ 1)) (g1 rfl rfl rfl rfl) rfl rfl ?_
        refine o_pu rfl (ev_pick_t rfl rfl rfl) (g0 rfl) rfl rfl ?_
        exact k_wk (J8 ((iand (ishr a0_c.Rights a1_kind) 1) == 1) H) [18, 0, 1, 2, 4, 5, 6, 7, 10, 11] [] 0 [0] 0 rfl rfl rfl
      | false =>
        rw [cond_false] at H
        refine o_gnot rfl rfl rfl rfl rfl rfl rfl rfl ?_
        refine o_gnot rfl rfl rfl rfl rfl rfl rfl rfl ?_
        refine o_gnot rfl rfl rfl rfl rfl rfl rfl rfl ?_
        refine o_gnot rfl rfl rfl rfl rfl rfl rfl rfl ?_
        refine o_gnot rfl rfl rfl rfl rfl rfl rfl rfl ?_
        refine o_gnot rfl rfl rfl rfl rfl rfl rfl rfl ?_
        refine o_pu rfl (ev_pick_f rfl rfl rfl) (g0 rfl) rfl rfl ?_
        exact k_wk (J8 false H) [18, 0, 1, 2, 4, 5, 6, 7, 10, 11] [] 0 [0] 0 rfl rfl rfl
  · intro J4 H
    cases b2 with
    | true =>
      rw [cond_true] at H
      refine o_pu rfl (ev_move rfl rfl) (g1 rfl rfl rfl rfl) rfl rfl ?_
      refine o_pu rfl (ev_bin rfl rfl rfl rfl (leq_i _ 9)) (g1 rfl rfl rfl rfl) rfl rfl ?_
      refine o_pu rfl (ev_pick_t rfl rfl rfl) (g0 rfl) rfl rfl ?_
      exact k_wk (J4 (decide (a1_kind ≤ 9)) H) [10, 0, 1, 2, 4, 5, 6, 7] [] 0 [0] 0 rfl rfl rfl
    | false =>
      rw [cond_false] at H
      refine o_gnot rfl rfl rfl rfl rfl rfl rfl rfl ?_
      refine o_gnot rfl rfl rfl rfl rfl rfl rfl rfl ?_
      refine o_pu rfl (ev_pick_f rfl rfl rfl) (g0 rfl) rfl rfl ?_
      exact k_wk (J4 false H) [10, 0, 1, 2, 4, 5, 6, 7] [] 0 [0] 0 rfl rfl rfl

def meta_Other (a0_m : MetaS) : Option Int :=
some (wrap64 (1 - a0_m.Active))

theorem c_meta_Other (a0_m : MetaS) (r : Int) (H : meta_Other a0_m = some r) : Fn Tryd.prog 36 [(.agg (MetaS.cells a0_m).toArray)] [] [] (fun v D' G' => v = (vi r) ∧ D' = [] ∧ G' = []) := by
  unfold meta_Other at H
  refine fn_of Tryd.func36 rfl Tryd.ntmps36 rfl ?_
  intro w0 D0 G0
  dsimp only [app, initEnv, Nat.zero_add, Nat.reduceAdd]
  refine s_seq ?_
  refine s_reg [0, 1] rfl ?_
  refine oc (k_box rfl rfl rfl (cs := MetaS.cells a0_m) rfl (g0 rfl) rfl rfl ?_)
  intro b1
  refine o_pu rfl (ev_assign rfl rfl) (g0 rfl) rfl rfl ?_
  refine o_nil ?_
  refine q_then ?_
  refine s_seq ?_
  refine s_reg [0, 1, 2, 3] rfl ?_
  refine o_pu rfl (ev_fieldAddr rfl rfl Tryd.runUnderlying74 rfl Tryd.sizeOf3 rfl rfl) (g0 rfl) rfl rfl ?_
  refine o_ld (hG 0 rfl) rfl (ev_ld1 (j := 0) rfl rfl Tryd.isAgg3 (MetaS.sub_Active _) rfl) (g0 rfl) rfl rfl ?_
  refine o_pu rfl (ev_bin rfl rfl rfl rfl (sub_i 1 _)) (g0 rfl) rfl rfl ?_
  refine o_pu rfl (ev_assign rfl rfl) (g0 rfl) rfl rfl ?_
  refine o_nil ?_
  refine q_then ?_
  refine s_ret ?_
  cases H
  exact q_end (rs_1 Tryd.results36 (rv_tmp rfl)) ⟨rfl, rfl, rfl⟩ [] rfl 0 rfl [] rfl 1 rfl

def model_Model_image (a0_m : ModelS) (a1_slot : Int) (a2_size : Int) : Option (List UInt8) :=
chk (0 ≤ a1_slot ∧ a1_slot < 2) <|
bif decide (a1_slot = 0) then (
chk (0 ≤ (0 : Int) ∧ (0 : Int) ≤ (if 0 < (if (a0_m.slots0.length : Int) < a2_size then (a0_m.slots0.length : Int) else a2_size) then (if (a0_m.slots0.length : Int) < a2_size then (a0_m.slots0.length : Int) else a2_size) else 0) ∧ (if 0 < (if (a0_m.slots0.length : Int) < a2_size then (a0_m.slots0.length : Int) else a2_size) then (if (a0_m.slots0.length : Int) < a2_size then (a0_m.slots0.length : Int) else a2_size) else 0) ≤ (a0_m.slots0.length : Int) ∧ ((0 : Int) = 0 ∨ (0 : Int) < (a0_m.slots0.length : Int))) <|
chk (0 ≤ (0 : Int) ∧ (0 : Int) ≤ (if 0 < (if (a0_m.slots0.length : Int) < a2_size then (a0_m.slots0.length : Int) else a2_size) then (if (a0_m.slots0.length : Int) < a2_size then (a0_m.slots0.length : Int) else a2_size) else 0) ∧ (if 0 < (if (a0_m.slots0.length : Int) < a2_size then (a0_m.slots0.length : Int) else a2_size) then (if (a0_m.slots0.length : Int) < a2_size then (a0_m.slots0.length : Int) else a2_size) else 0) ≤ (a0_m.slots0.length : Int)) <|
(slices_Clone (slc a0_m.slots0 (0 : Int) (if 0 < (if (a0_m.slots0.length : Int) < a2_size then (a0_m.slots0.length : Int) else a2_size) then (if (a0_m.slots0.length : Int) < a2_size then (a0_m.slots0.length : Int) else a2_size) else 0))).bind fun r4 =>
some r4) else (
chk (0 ≤ (0 : Int) ∧ (0 : Int) ≤ (if 0 < (if (a0_m.slots1.length : Int) < a2_size then (a0_m.slots1.length : Int) else a2_size) then (if (a0_m.slots1.length : Int) < a2_size then (a0_m.slots1.length : Int) else a2_size) else 0) ∧ (if 0 < (if (a0_m.slots1.length : Int) < a2_size then (a0_m.slots1.length : Int) else a2_size) then (if (a0_m.slots1.length : Int) < a2_size then (a0_m.slots1.length : Int) else a2_size) else 0) ≤ (a0_m.slots1.length : Int) ∧ ((0 : Int) = 0 ∨ (0 : Int) < (a0_m.slots1.length : Int))) <|
chk (0 ≤ (0 : Int) ∧ (0 : Int) ≤ (if 0 < (if (a0_m.slots1.length : Int) < a2_size then (a0_m.slots1.length : Int) else a2_size) then (if (a0_m.slots1.length : Int) < a2_size then (a0_m.slots1.length : Int) else a2_size) else 0) ∧ (if 0 < (if (a0_m.slots1.length : Int) < a2_size then (a0_m.slots1.length : Int) else a2_size) then (if (a0_m.slots1.length : Int) < a2_size then (a0_m.slots1.length : Int) else a2_size) else 0) ≤ (a0_m.slots1.length : Int)) <|
(slices_Clone (slc a0_m.slots1 (0 : Int) (if 0 < (if (a0_m.slots1.length : Int) < a2_size then (a0_m.slots1.length : Int) else a2_size) then (if (a0_m.slots1.length : Int) < a2_size then (a0_m.slots1.length : Int) else a2_size) else 0))).bind fun r10 =>
some r10)

theorem c_model_Model_image (a0_mp : Nat) (a0_m : ModelS) (a0_mg : ModelG) (a1_slot : Int) (a2_size : Int) (r : (List UInt8)) (H : model_Model_image a0_m a1_slot a2_size = some r) : Fn Tryd.prog 48 [(.pointer (some ⟨a0_mp, 0, none⟩)), (vi a1_slot), (vi a2_size)] [] [ModelT a0_mg a0_mp a0_m] (fun v D' G' => ∃ (A15 : Option Addr) (c16 : Nat), v = (.slice A15 r.length c16) ∧ D' = [Sl E8 A15 c16 r] ∧ G' = [Spare A15 r.length c16 1, ModelT a0_mg a0_mp a0_m]) := by
  unfold model_Model_image at H
  refine fn_of Tryd.func48 rfl Tryd.ntmps48 rfl ?_
  intro w0 D0 G0
  dsimp only [app, initEnv, Nat.zero_add, Nat.reduceAdd]
  refine s_seq ?_
  refine s_reg [0] rfl ?_
  refine o_pu rfl (ev_assign rfl rfl) (g0 rfl) rfl rfl ?_
  refine o_nil ?_
  refine q_then ?_
  refine s_seq ?_
  refine k_unp 0 rfl ?_
  dsimp only [app, del]
  refine s_draw mixed [(5, [], Has a0_mp 0 ([vs a0_m.c.Name, .slice a0_mg.A1 a0_m.c.Key.length a0_mg.c1, vi a0_m.c.Slot, vi a0_m.c.Budget, vi a0_m.c.Quota, vi a0_m.c.Rights, .slice a0_mg.A6 a0_m.c.First.length a0_mg.c6] ++ (MetaS.cells a0_m.m ++ ([.slice (some ⟨a0_mg.b8, 0, none⟩) a0_m.slots0.length a0_m.slots0.length, .slice (some ⟨a0_mg.b9, 0, none⟩) a0_m.slots1.length a0_m.slots1.length])))), (12, [], Has a0_mp 0 ([vs a0_m.c.Name, .slice a0_mg.A1 a0_m.c.Key.length a0_mg.c1, vi a0_m.c.Slot, vi a0_m.c.Budget, vi a0_m.c.Quota, vi a0_m.c.Rights, .slice a0_mg.A6 a0_m.c.First.length a0_mg.c6] ++ (MetaS.cells a0_m.m ++ ([.slice (some ⟨a0_mg.b8, 0, none⟩) a0_m.slots0.length a0_m.slots0.length, .slice (some ⟨a0_mg.b9, 0, none⟩) a0_m.slots1.length a0_m.slots1.length]))))] ?_
  refine a_pu 0 rfl (ev_move rfl rfl) (by rfl) (by kernel_rfl) (by kernel_rfl) (by kernel_rfl) (fun _ _ _ h => h) (g0 rfl) rfl rfl ?_
  refine a_pu 1 rfl (ev_move rfl rfl) (by rfl) (by kernel_rfl) (by kernel_rfl) (by kernel_rfl) (fun _ _ _ h => h) (g0 rfl) rfl rfl ?_
  refine a_pu 2 rfl (ev_nilCheck rfl rfl) (by rfl) (by kernel_rfl) (by kernel_rfl) (by kernel_rfl) (fun _ _ _ h => h) (g0 rfl) rfl rfl ?_
  refine a_pu 3 rfl (ev_fieldAddr rfl rfl Tryd.runUnderlying77 rfl Tryd.sizeOf75 rfl rfl) (by rfl) (by kernel_rfl) (by kernel_rfl) (by kernel_rfl) (fun _ _ _ h => h) (g0 rfl) rfl rfl ?_
  obtain ⟨hk1, H⟩ := chk_some H
  rcases Bool.eq_false_or_eq_true (decide (a1_slot = 0)) with hb2 | hb2
  · have H := cnd_t H hb2
    refine k_eq (v' := vi 0) 1 rfl (congrArg vi (by have := of_decide_eq_true hb2; omega)) ?_
    refine k_eq (v' := vi 0) 8 rfl (congrArg vi (by have := of_decide_eq_true hb2; omega)) ?_
    refine a_pu 4 rfl (ev_idx_array (k := 0) rfl rfl rfl Tryd.runUnderlying75 Tryd.sizeOf32 ⟨by omega, by omega⟩ rfl) (by rfl) (by kernel_rfl) (by kernel_rfl) (by kernel_rfl) (fun _ _ _ h => h) (g0 rfl) rfl rfl ?_
    refine a_ld 5 0 rfl rfl (ev_ld1 (j := 114) rfl rfl Tryd.isAgg32 (sub_skip (n := 7) (sub_skip (n := 107) (sub_nth (j := 0) rfl) (MetaS.len _) rfl) rfl rfl) rfl) (by kernel_rfl) (by rfl) (by kernel_rfl) (by kernel_rfl) (by kernel_rfl) (by kernel_rfl) (fun _ _ _ h => h) (g0 rfl) rfl rfl ?_
    refine a_pu 6 rfl (ev_move rfl rfl) (by rfl) (by kernel_rfl) (by kernel_rfl) (by kernel_rfl) (fun _ _ _ h => h) (g0 rfl) rfl rfl ?_
    refine a_pu 7 rfl (ev_move rfl rfl) (by rfl) (by kernel_rfl) (by kernel_rfl) (by kernel_rfl) (fun _ _ _ h => h) (g0 rfl) rfl rfl ?_
    refine a_pu 8 rfl (ev_move rfl rfl) (by rfl) (by kernel_rfl) (by kernel_rfl) (by kernel_rfl) (fun _ _ _ h => h) (g0 rfl) rfl rfl ?_
    refine a_pu 9 rfl (ev_nilCheck rfl rfl) (by rfl) (by kernel_rfl) (by kernel_rfl) (by kernel_rfl) (fun _ _ _ h => h) (g0 rfl) rfl rfl ?_
    refine a_pu 10 rfl (ev_fieldAddr rfl rfl Tryd.runUnderlying77 rfl Tryd.sizeOf75 rfl rfl) (by rfl) (by kernel_rfl) (by kernel_rfl) (by kernel_rfl) (fun _ _ _ h => h) (g0 rfl) rfl rfl ?_
    refine a_pu 11 rfl (ev_idx_array (k := 0) rfl rfl rfl Tryd.runUnderlying75 Tryd.sizeOf32 ⟨by omega, by omega⟩ rfl) (by rfl) (by kernel_rfl) (by kernel_rfl) (by kernel_rfl) (fun _ _ _ h => h) (g0 rfl) rfl rfl ?_
    refine a_ld 12 1 rfl rfl (ev_ld1 (j := 114) rfl rfl Tryd.isAgg32 (sub_skip (n := 7) (sub_skip (n := 107) (sub_nth (j := 0) rfl) (MetaS.len _) rfl) rfl rfl) rfl) (by kernel_rfl) (by rfl) (by kernel_rfl) (by kernel_rfl) (by kernel_rfl) (by kernel_rfl) (fun _ _ _ h => h) (g0 rfl) rfl rfl ?_
    refine a_pu 13 rfl (ev_len_slice rfl rfl Tryd.runUnderlying32) (by rfl) (by kernel_rfl) (by kernel_rfl) (by kernel_rfl) (fun _ _ _ h => h) (g0 rfl) rfl rfl ?_
    refine a_pu 14 rfl (ev_min rfl rfl rfl) (by rfl) (by kernel_rfl) (by kernel_rfl) (by kernel_rfl) (fun _ _ _ h => h) (g0 rfl) rfl rfl ?_
    refine a_pu 15 rfl (ev_max rfl rfl rfl) (by rfl) (by kernel_rfl) (by kernel_rfl) (by kernel_rfl) (fun _ _ _ h => h) (g0 rfl) rfl rfl ?_
    obtain ⟨hk3, H⟩ := chk_some H
    refine a_pu 16 rfl (ev_slice_o (ka := .i64) (a := (0 : Int)) (b' := (if 0 < (if (a0_m.slots0.length : Int) < a2_size then (a0_m.slots0.length : Int) else a2_size) then (if (a0_m.slots0.length : Int) < a2_size then (a0_m.slots0.length : Int) else a2_size) else 0)) rfl rfl Tryd.runUnderlying32 Tryd.sizeOf5 (.inl ⟨rfl, rfl⟩) (.inr rfl) ⟨hk3.1, hk3.2.1, hk3.2.2.1, Nat.le_refl _, hk3.2.2.2⟩ rfl) (by rfl) (by kernel_rfl) (by kernel_rfl) (by kernel_rfl) (fun _ _ _ h => h) (g0 rfl) rfl rfl ?_
    refine ac 17 (by kernel_rfl) (sl_cons (hG 0 rfl) (sl_cons (hG 0 rfl) sl_nil)) ?_
    obtain ⟨hk6, H⟩ := chk_some H
    refine k_eq (v' := (.slice (some ⟨a0_mg.b8, (0 + (0 : Int).toNat * 1), none⟩) ((slc a0_m.slots0 (0 : Int) (if 0 < (if (a0_m.slots0.length : Int) < a2_size then (a0_m.slots0.length : Int) else a2_size) then (if (a0_m.slots0.length : Int) < a2_size then (a0_m.slots0.length : Int) else a2_size) else 0)).length) (a0_m.slots0.length - (0 : Int).toNat))) 23 rfl (congrArg (fun z => Value.slice (some ⟨a0_mg.b8, (0 + (0 : Int).toNat * 1), none⟩) z (a0_m.slots0.length - (0 : Int).toNat)) (slc_length _ hk6.1 hk6.2.1 hk6.2.2).symm) ?_
    obtain ⟨r4, Hc5, H⟩ := bind_some' H
    refine k_call (c_slices_Clone_l (slc a0_m.slots0 (0 : Int) (if 0 < (if (a0_m.slots0.length : Int) < a2_size then (a0_m.slots0.length : Int) else a2_size) then (if (a0_m.slots0.length : Int) < a2_size then (a0_m.slots0.length : Int) else a2_size) else 0)) a0_mg.b8 0 (0 + (0 : Int).toNat * 1) _ (a0_m.slots0.length - (0 : Int).toNat) (a0_m.slots0.flatMap E8) (sub_slc E8_len hk6 rfl) (by omega) r4 Hc5) Tryd.call30 rfl rfl rfl [] [1] rfl rfl (g0 rfl) rfl rfl ?_
    rintro _ _ _ ⟨A7, c8, rfl, rfl, rfl⟩
    dsimp only [app]
    refine a_pu 18 rfl (ev_assign rfl rfl) (by rfl) (by kernel_rfl) (by kernel_rfl) (by kernel_rfl) (fun _ _ _ h => h) (g0 rfl) rfl rfl ?_
    refine a_done (by kernel_rfl) (sl_cons (hG 2 rfl) (sl_cons (hG 2 rfl) sl_nil)) ?_
    refine q_then ?_
    refine s_ret ?_
    refine k_pk (ModelT a0_mg a0_mp a0_m) rfl [1, 2] [2, 1, 1] rfl rfl ?_
    cases H
    exact q_end (rs_1 Tryd.results48 (rv_tmp rfl)) ⟨A7, c8, rfl, rfl, rfl⟩ [0] rfl 3 rfl [1, 0] rfl 0 rfl
  · have H := cnd_f H hb2
    refine k_eq (v' := vi 1) 1 rfl (congrArg vi (by have := of_decide_eq_false hb2; omega)) ?_
    refine k_eq (v' := vi 1) 8 rfl (congrArg vi (by have := of_decide_eq_false hb2; omega)) ?_
    refine a_pu 4 rfl (ev_idx_array (k := 1) rfl rfl rfl Tryd.runUnderlying75 Tryd.sizeOf32 ⟨by omega, by omega⟩ rfl) (by rfl) (by kernel_rfl) (by kernel_rfl) (by kernel_rfl) (fun _ _ _ h => h) (g0 rfl) rfl rfl ?_
    refine a_ld 5 0 rfl rfl (ev_ld1 (j := 115) rfl rfl Tryd.isAgg32 (sub_skip (n := 7) (sub_skip (n := 107) (sub_nth (j := 1) rfl) (MetaS.len _) rfl) rfl rfl) rfl) (by kernel_rfl) (by rfl) (by kernel_rfl) (by kernel_rfl) (by kernel_rfl) (by kernel_rfl) (fun _ _ _ h => h) (g0 rfl) rfl rfl ?_
    refine a_pu 6 rfl (ev_move rfl rfl) (by rfl) (by kernel_rfl) (by kernel_rfl) (by kernel_rfl) (fun _ _ _ h => h) (g0 rfl) rfl rfl ?_
    refine a_pu 7 rfl (ev_move rfl rfl) (by rfl) (by kernel_rfl) (by kernel_rfl) (by kernel_rfl) (fun _ _ _ h => h) (g0 rfl) rfl rfl ?_
    refine a_pu 8 rfl (ev_move rfl rfl) (by rfl) (by kernel_rfl) (by kernel_rfl) (by kernel_rfl) (fun _ _ _ h => h) (g0 rfl) rfl rfl ?_
    refine a_pu 9 rfl (ev_nilCheck rfl rfl) (by rfl) (by kernel_rfl) (by kernel_rfl) (by kernel_rfl) (fun _ _ _ h => h) (g0 rfl) rfl rfl ?_
    refine a_pu 10 rfl (ev_fieldAddr rfl rfl Tryd.runUnderlying77 rfl Tryd.sizeOf75 rfl rfl) (by rfl) (by kernel_rfl) (by kernel_rfl) (by kernel_rfl) (fun _ _ _ h => h) (g0 rfl) rfl rfl ?_
    refine a_pu 11 rfl (ev_idx_array (k := 1) rfl rfl rfl Tryd.runUnderlying75 Tryd.sizeOf32 ⟨by omega, by omega⟩ rfl) (by rfl) (by kernel_rfl) (by kernel_rfl) (by kernel_rfl) (fun _ _ _ h => h) (g0 rfl) rfl rfl ?_
    refine a_ld 12 1 rfl rfl (ev_ld1 (j := 115) rfl rfl Tryd.isAgg32 (sub_skip (n := 7) (sub_skip (n := 107) (sub_nth (j := 1) rfl) (MetaS.len _) rfl) rfl rfl) rfl) (by kernel_rfl) (by rfl) (by kernel_rfl) (by kernel_rfl) (by kernel_rfl) (by kernel_rfl) (fun _ _ _ h => h) (g0 rfl) rfl rfl ?_
    refine a_pu 13 rfl (ev_len_slice rfl rfl Tryd.runUnderlying32) (by rfl) (by kernel_rfl) (by kernel_rfl) (by kernel_rfl) (fun _ _ _ h => h) (g0 rfl) rfl rfl ?_
    refine a_pu 14 rfl (ev_min rfl rfl rfl) (by rfl) (by kernel_rfl) (by kernel_rfl) (by kernel_rfl) (fun _ _ _ h => h) (g0 rfl) rfl rfl ?_
    refine a_pu 15 rfl (ev_max rfl rfl rfl) (by rfl) (by kernel_rfl) (by kernel_rfl) (by kernel_rfl) (fun _ _ _ h => h) (g0 rfl) rfl rfl ?_
    obtain ⟨hk9, H⟩ := chk_some H
    refine a_pu 16 rfl (ev_slice_o (ka := .i64) (a := (0 : Int)) (b' := (if 0 < (if (a0_m.slots1.length : Int) < a2_size then (a0_m.slots1.length : Int) else a2_size) then (if (a0_m.slots1.length : Int) < a2_size then (a0_m.slots1.length : Int) else a2_size) else 0)) rfl rfl Tryd.runUnderlying32 Tryd.sizeOf5 (.inl ⟨rfl, rfl⟩) (.inr rfl) ⟨hk9.1, hk9.2.1, hk9.2.2.1, Nat.le_refl _, hk9.2.2.2⟩ rfl) (by rfl) (by kernel_rfl) (by kernel_rfl) (by kernel_rfl) (fun _ _ _ h => h) (g0 rfl) rfl rfl ?_
    refine ac 17 (by kernel_rfl) (sl_cons (hG 0 rfl) (sl_cons (hG 0 rfl) sl_nil)) ?_
    obtain ⟨hk12, H⟩ := chk_some H
    refine k_eq (v' := (.slice (some ⟨a0_mg.b9, (0 + (0 : Int).toNat * 1), none⟩) ((slc a0_m.slots1 (0 : Int) (if 0 < (if (a0_m.slots1.length : Int) < a2_size then (a0_m.slots1.length : Int) else a2_size) then (if (a0_m.slots1.length : Int) < a2_size then (a0_m.slots1.length : Int) else a2_size) else 0)).length) (a0_m.slots1.length - (0 : Int).toNat))) 23 rfl (congrArg (fun z => Value.slice (some ⟨a0_mg.b9, (0 + (0 : Int).toNat * 1), none⟩) z (a0_m.slots1.length - (0 : Int).toNat)) (slc_length _ hk12.1 hk12.2.1 hk12.2.2).symm) ?_
    obtain ⟨r10, Hc11, H⟩ := bind_some' H
    refine k_call (c_slices_Clone_l (slc a0_m.slots1 (0 : Int) (if 0 < (if (a0_m.slots1.length : Int) < a2_size then (a0_m.slots1.length : Int) else a2_size) then (if (a0_m.slots1.length : Int) < a2_size then (a0_m.slots1.length : Int) else a2_size) else 0)) a0_mg.b9 0 (0 + (0 : Int).toNat * 1) _ (a0_m.slots1.length - (0 : Int).toNat) (a0_m.slots1.flatMap E8) (sub_slc E8_len hk12 rfl) (by omega) r10 Hc11) Tryd.call30 rfl rfl rfl [] [2] rfl rfl (g0 rfl) rfl rfl ?_
    rintro _ _ _ ⟨A13, c14, rfl, rfl, rfl⟩
    dsimp only [app]
    refine a_pu 18 rfl (ev_assign rfl rfl) (by rfl) (by kernel_rfl) (by kernel_rfl) (by kernel_rfl) (fun _ _ _ h => h) (g0 rfl) rfl rfl ?_
    refine a_done (by kernel_rfl) (sl_cons (hG 2 rfl) (sl_cons (hG 2 rfl) sl_nil)) ?_
    refine q_then ?_
    refine s_ret ?_
    refine k_pk (ModelT a0_mg a0_mp a0_m) rfl [1, 2] [2, 2, 1] rfl rfl ?_
    cases H
    exact q_end (rs_1 Tryd.results48 (rv_tmp rfl)) ⟨A13, c14, rfl, rfl, rfl⟩ [0] rfl 3 rfl [1, 0] rfl 0 rfl

def names_may (a0_r : Int) : Option Bool :=
bnd (decide (a0_r ≥ 97)) fun b1 =>
jn (fun x4 =>
bnd x4 fun b5 =>
jn (fun x8 =>
bnd x8 fun b9 =>
jn (fun x12 =>
some x12) fun J11 =>
bif b9 then (
J11 true) else
bnd (decide (a0_r ≥ 945)) fun b13 =>
jn (fun x16 =>
J11 x16) fun J15 =>
bif b13 then (
J15 (decide (a0_r ≤ 969))) else
J15 false) fun J7 =>
bif b5 then (
J7 true) else
bnd (decide (a0_r ≥ 48)) fun b17 =>
jn (fun x20 =>
J7 x20) fun J19 =>
bif b17 then (
J19 (decide (a0_r ≤ 57))) else
J19 false) fun J3 =>
bif b1 then (
J3 (decide (a0_r ≤ 122))) else
J3 false

theorem c_names_may (a0_r : Int) (r : Bool) (H : names_may a0_r = some r) : Fn Tryd.prog 65 [(vr a0_r)] [] [] (fun v D' G' => v = (vb r) ∧ D' = [] ∧ G' = []) := by
  unfold names_may at H
  refine fn_of Tryd.func65 rfl Tryd.ntmps65 rfl ?_
  intro w0 D0 G0
  dsimp only [app, initEnv, Nat.zero_add, Nat.reduceAdd]
  refine s_seq ?_
  refine s_reg [0] rfl ?_
  refine o_pu rfl (ev_assign rfl rfl) (g0 rfl) rfl rfl ?_
  refine o_nil ?_
  refine q_then ?_
  refine s_seq ?_
  refine s_reg [0, 1, 2, 3, 4, 5, 6, 7, 8, 9, 10, 11, 12, 13, 14, 15, 16, 17, 18, 19, 20, 21, 22] rfl ?_
  refine o_pu rfl (ev_move rfl rfl) (g0 rfl) rfl rfl ?_
  refine o_pu rfl (ev_bin rfl rfl rfl rfl (geq_r _ 97)) (g0 rfl) rfl rfl ?_
  refine o_pu rfl (ev_move rfl rfl) (g0 rfl) rfl rfl ?_
  refine k_name 5 rfl ?_
  intro b1 hb2
  have H := bnd_eq H hb2
  refine o_jb 8 [6, 7, 8, 9, 10, 11, 12, 13, 14, 15, 16, 17, 18, 19, 20, 21, 22] [0, 2, 3, 4, 5] H rfl ?_ ?_
  · intro x4 H
    refine o_pu rfl (ev_move rfl rfl) (g0 rfl) rfl rfl ?_
    refine k_name 9 rfl ?_
    intro b5 hb6
    have H := bnd_eq H hb6
    refine o_jb 16 [14, 15, 16, 17, 18, 19, 20, 21, 22] [0, 2, 3, 4, 5, 8, 9] H rfl ?_ ?_
    · intro x8 H
      refine o_pu rfl (ev_move rfl rfl) (g0 rfl) rfl rfl ?_
      refine k_name 17 rfl ?_
      intro b9 hb10
      have H := bnd_eq H hb10
      refine o_jb 24 [22] [0, 2, 3, 4, 5, 8, 9, 16, 17] H rfl ?_ ?_
      · intro x12 H
        refine o_pu rfl (ev_assign rfl rfl) (g0 rfl) rfl rfl ?_
        refine o_nil ?_
        refine q_then ?_
        refine s_ret ?_
        cases H
        exact q_end (rs_1 Tryd.results65 (rv_tmp rfl)) ⟨rfl, rfl, rfl⟩ [] rfl 0 rfl [] rfl 0 rfl
      · intro J11 H
        cases b9 with
        | true =>
          rw [cond_true] at H
          refine o_gnot rfl rfl rfl rfl rfl rfl rfl rfl ?_
          refine o_gnot rfl rfl rfl rfl rfl rfl rfl rfl ?_
          refine o_gnot rfl rfl rfl rfl rfl rfl rfl rfl ?_
          refine o_gundef rfl rfl rfl rfl rfl rfl rfl ?_
          refine o_gundef rfl rfl rfl rfl rfl rfl rfl ?_
          refine o_gnot rfl rfl rfl rfl rfl rfl rfl rfl ?_
          refine o_pu rfl (ev_pick_t rfl rfl rfl) (g0 rfl) rfl rfl ?_
          exact k_wk (J11 true H) [24, 0, 2, 3, 4, 5, 8, 9, 16, 17] [] 0 [] 0 rfl rfl rfl
        | false =>
          rw [cond_false] at H
          refine o_pu rfl (ev_move rfl rfl) (g1 rfl rfl rfl rfl) rfl rfl ?_
          refine o_pu rfl (ev_bin rfl rfl rfl rfl (geq_r _ 945)) (g1 rfl rfl rfl rfl) rfl rfl ?_
          refine o_pu rfl (ev_move rfl rfl) (g1 rfl rfl rfl rfl) rfl rfl ?_
          refine k_name 20 rfl ?_
          intro b13 hb14
          have H := bnd_eq H hb14
          refine o_jb 23 [21, 22] [0, 2, 3, 4, 5, 8, 9, 16, 17, 18, 19, 20] H rfl ?_ ?_
          · intro x16 H
            refine o_pu rfl (ev_pick_f rfl rfl rfl) (g0 rfl) rfl rfl ?_
            exact k_wk (J11 x16 H) [24, 0, 2, 3, 4, 5, 8, 9, 16, 17] [] 0 [] 0 rfl rfl rfl
          · intro J15 H
            cases b13 with
            | true =>
              rw [cond_true] at H
              refine o_pu rfl (ev_move rfl rfl) (g1 rfl rfl rfl rfl) rfl rfl ?_
              refine o_pu rfl (ev_bin rfl rfl rfl rfl (leq_r _ 969)) (g1 rfl rfl rfl rfl) rfl rfl ?_
              refine o_pu rfl (ev_pick_t rfl rfl rfl) (g1 rfl rfl rfl rfl) rfl rfl ?_
              exact k_wk (J15 (decide (a0_r ≤ 969)) H) [23, 0, 2, 3, 4, 5, 8, 9, 16, 17, 18, 19, 20] [] 0 [] 0 rfl rfl rfl
            | false =>
              rw [cond_false] at H
              refine o_gnot rfl rfl rfl rfl rfl rfl rfl rfl ?_
              refine o_gnot rfl rfl rfl rfl rfl rfl rfl rfl ?_
              refine o_pu rfl (ev_pick_f rfl rfl rfl) (g1 rfl rfl rfl rfl) rfl rfl ?_
              exact k_wk (J15 false H) [23, 0, 2, 3, 4, 5, 8, 9, 16, 17, 18, 19, 20] [] 0 [] 0 rfl rfl rfl
    · intro J7 H
      cases b5 with
      | true =>
        rw [cond_true] at H
        refine o_gnot rfl rfl rfl rfl rfl rfl rfl rfl ?_
        refine o_gnot rfl rfl rfl rfl rfl rfl rfl rfl ?_
        refine o_gnot rfl rfl rfl rfl rfl rfl rfl rfl ?_
        refine o_gundef rfl rfl rfl rfl rfl rfl rfl ?_
        refine o_gundef rfl rfl rfl rfl rfl rfl rfl ?_
        refine o_gnot rfl rfl rfl rfl rfl rfl rfl rfl ?_
        refine o_pu rfl (ev_pick_t rfl rfl rfl) (g0 rfl) rfl rfl ?_
        exact k_wk (J7 true H) [16, 0, 2, 3, 4, 5, 8, 9] [] 0 [] 0 rfl rfl rfl
      | false =>
        rw [cond_false] at H
        refine o_pu rfl (ev_move rfl rfl) (g1 rfl rfl rfl rfl) rfl rfl ?_
        refine o_pu rfl (ev_bin rfl rfl rfl rfl (geq_r _ 48)) (g1 rfl rfl rfl rfl) rfl rfl ?_
        refine o_pu rfl (ev_move rfl rfl) (g1 rfl rfl rfl rfl) rfl rfl ?_
        refine k_name 12 rfl ?_
        intro b17 hb18
        have H := bnd_eq H hb18
        refine o_jb 15 [13, 14, 15, 16, 17, 18, 19, 20, 21, 22] [0, 2, 3, 4, 5, 8, 9, 10, 11, 12] H rfl ?_ ?_
        · intro x20 H
          refine o_pu rfl (ev_pick_f rfl rfl rfl) (g0 rfl) rfl rfl ?_
          exact k_wk (J7 x20 H) [16, 0, 2, 3, 4, 5, 8, 9] [] 0 [] 0 rfl rfl rfl
        · intro J19 H
          cases b17 with
          | true =>
            rw [cond_true] at H
            refine o_pu rfl (ev_move rfl rfl) (g1 rfl rfl rfl rfl) rfl rfl ?_
            refine o_pu rfl (ev_bin rfl rfl rfl rfl (leq_r _ 57)) (g1 rfl rfl rfl rfl) rfl rfl ?_
            refine o_pu rfl (ev_pick_t rfl rfl rfl) (g1 rfl rfl rfl rfl) rfl rfl ?_
            exact k_wk (J19 (decide (a0_r ≤ 57)) H) [15, 0, 2, 3, 4, 5, 8, 9, 10, 11, 12] [] 0 [] 0 rfl rfl rfl
          | false =>
            rw [cond_false] at H
            refine o_gnot rfl rfl rfl rfl rfl rfl rfl rfl ?_
            refine o_gnot rfl rfl rfl rfl rfl rfl rfl rfl ?_
            refine o_pu rfl (ev_pick_f rfl rfl rfl) (g1 rfl rfl rfl rfl) rfl rfl ?_
            exact k_wk (J19 false H) [15, 0, 2, 3, 4, 5, 8, 9, 10, 11, 12] [] 0 [] 0 rfl rfl rfl
  · intro J3 H
    cases b1 with
    | true =>
      rw [cond_true] at H
      refine o_pu rfl (ev_move rfl rfl) (g1 rfl rfl rfl rfl) rfl rfl ?_
      refine o_pu rfl (ev_bin rfl rfl rfl rfl (leq_r _ 122)) (g1 rfl rfl rfl rfl) rfl rfl ?_
      refine o_pu rfl (ev_pick_t rfl rfl rfl) (g0 rfl) rfl rfl ?_
      exact k_wk (J3 (decide (a0_r ≤ 122)) H) [8, 0, 2, 3, 4, 5] [] 0 [] 0 rfl rfl rfl
    | false =>
      rw [cond_false] at H
      refine o_gnot rfl rfl rfl rfl rfl rfl rfl rfl ?_
      refine o_gnot rfl rfl rfl rfl rfl rfl rfl rfl ?_
      refine o_pu rfl (ev_pick_f rfl rfl rfl) (g0 rfl) rfl rfl ?_
      exact k_wk (J3 false H) [8, 0, 2, 3, 4, 5] [] 0 [] 0 rfl rfl rfl

def math_bits_Mul32 (a0_x : UInt32) (a1_y : UInt32) : Option (UInt32 × UInt32) :=
some ((shr64 ((a0_x.toUInt64 * a1_y.toUInt64) : UInt64) (32 : UInt64).toNat).toUInt32, (a0_x.toUInt64 * a1_y.toUInt64).toUInt32)

theorem c_math_bits_Mul32 (a0_x : UInt32) (a1_y : UInt32) (r : UInt32 × UInt32) (H : math_bits_Mul32 a0_x a1_y = some r) : Fn Tryd.prog 66 [(v32 a0_x), (v32 a1_y)] [] [] (fun v D' G' => v = (.tuple #[(v32 r.1), (v32 r.2)]) ∧ D' = [] ∧ G' = []) := by
  unfold math_bits_Mul32 at H
  refine fn_of Tryd.func66 rfl Tryd.ntmps66 rfl ?_
  intro w0 D0 G0
  dsimp only [app, initEnv, Nat.zero_add, Nat.reduceAdd]
  refine s_seq ?_
  refine s_reg [0, 1] rfl ?_
  refine o_pu rfl (ev_assign rfl rfl) (g0 rfl) rfl rfl ?_
  refine o_pu rfl (ev_assign rfl rfl) (g0 rfl) rfl rfl ?_
  refine o_nil ?_
  refine q_then ?_
  refine s_seq ?_
  refine s_reg [0, 1, 2, 3, 4, 5] rfl ?_
  refine o_pu rfl (ev_move rfl rfl) (g0 rfl) rfl rfl ?_
  refine o_pu rfl (ev_conv rfl rfl (conv_u32_u64 _ Tryd.runUnderlying124 Tryd.runUnderlying127)) (g0 rfl) rfl rfl ?_
  refine o_pu rfl (ev_move rfl rfl) (g0 rfl) rfl rfl ?_
  refine o_pu rfl (ev_conv rfl rfl (conv_u32_u64 _ Tryd.runUnderlying124 Tryd.runUnderlying127)) (g0 rfl) rfl rfl ?_
  refine o_pu rfl (ev_bin rfl rfl rfl rfl (mul_64 _ _)) (g0 rfl) rfl rfl ?_
  refine o_pu rfl (ev_assign rfl rfl) (g0 rfl) rfl rfl ?_
  refine o_nil ?_
  refine q_then ?_
  refine s_seq ?_
  refine s_reg [0, 1, 2, 3, 4, 5, 6] rfl ?_
  refine o_pu rfl (ev_move rfl rfl) (g0 rfl) rfl rfl ?_
  refine o_pu rfl (ev_bin rfl rfl rfl rfl (shr_64 _ 32)) (g0 rfl) rfl rfl ?_
  refine o_pu rfl (ev_conv rfl rfl (conv_u64_u32 _ Tryd.runUnderlying127 Tryd.runUnderlying124)) (g0 rfl) rfl rfl ?_
  refine o_pu rfl (ev_move rfl rfl) (g0 rfl) rfl rfl ?_
  refine o_pu rfl (ev_conv rfl rfl (conv_u64_u32 _ Tryd.runUnderlying127 Tryd.runUnderlying124)) (g0 rfl) rfl rfl ?_
  refine o_pu rfl (ev_assign rfl rfl) (g0 rfl) rfl rfl ?_
  refine o_pu rfl (ev_assign rfl rfl) (g0 rfl) rfl rfl ?_
  refine o_nil ?_
  refine q_then ?_
  refine s_ret ?_
  cases H
  exact q_end (rs_2 Tryd.results66 (rv_tmp rfl) (rv_tmp rfl)) ⟨rfl, rfl, rfl⟩ [] rfl 0 rfl [] rfl 0 rfl

def math_bits_Mul64 (a0_x : UInt64) (a1_y : UInt64) : Option (UInt64 × UInt64) :=
some (((((shr64 (a0_x : UInt64) (32 : UInt64).toNat) * (shr64 (a1_y : UInt64) (32 : UInt64).toNat)) + (shr64 ((((shr64 (a0_x : UInt64) (32 : UInt64).toNat) * (a1_y &&& (4294967295 : UInt64))) + (shr64 (((a0_x &&& (4294967295 : UInt64)) * (a1_y &&& (4294967295 : UInt64))) : UInt64) (32 : UInt64).toNat)) : UInt64) (32 : UInt64).toNat)) + (shr64 ((((((shr64 (a0_x : UInt64) (32 : UInt64).toNat) * (a1_y &&& (4294967295 : UInt64))) + (shr64 (((a0_x &&& (4294967295 : UInt64)) * (a1_y &&& (4294967295 : UInt64))) : UInt64) (32 : UInt64).toNat)) &&& (4294967295 : UInt64)) + ((a0_x &&& (4294967295 : UInt64)) * (shr64 (a1_y : UInt64) (32 : UInt64).toNat))) : UInt64) (32 : UInt64).toNat)), (a0_x * a1_y))

theorem c_math_bits_Mul64 (a0_x : UInt64) (a1_y : UInt64) (r : UInt64 × UInt64) (H : math_bits_Mul64 a0_x a1_y = some r) : Fn Tryd.prog 67 [(v64 a0_x), (v64 a1_y)] [] [] (fun v D' G' => v = (.tuple #[(v64 r.1), (v64 r.2)]) ∧ D' = [] ∧ G' = []) := by
  unfold math_bits_Mul64 at H
  refine fn_of Tryd.func67 rfl Tryd.ntmps67 rfl ?_
  intro w0 D0 G0
  dsimp only [app, initEnv, Nat.zero_add, Nat.reduceAdd]
  refine s_seq ?_
  refine s_reg [0, 1] rfl ?_
  refine o_pu rfl (ev_assign rfl rfl) (g0 rfl) rfl rfl ?_
  refine o_pu rfl (ev_assign rfl rfl) (g0 rfl) rfl rfl ?_
  refine o_nil ?_
  refine q_then ?_
  refine s_seq ?_
  refine s_reg [0, 1, 2] rfl ?_
  refine o_pu rfl (ev_move rfl rfl) (g0 rfl) rfl rfl ?_
  refine o_pu rfl (ev_bin rfl rfl rfl rfl (and_64 _ 4294967295)) (g0 rfl) rfl rfl ?_
  refine o_pu rfl (ev_assign rfl rfl) (g0 rfl) rfl rfl ?_
  refine o_nil ?_
  refine q_then ?_
  refine s_seq ?_
  refine s_reg [0, 1, 2] rfl ?_
  refine o_pu rfl (ev_move rfl rfl) (g0 rfl) rfl rfl ?_
  refine o_pu rfl (ev_bin rfl rfl rfl rfl (shr_64 _ 32)) (g0 rfl) rfl rfl ?_
  refine o_pu rfl (ev_assign rfl rfl) (g0 rfl) rfl rfl ?_
  refine o_nil ?_
  refine q_then ?_
  refine s_seq ?_
  refine s_reg [0, 1, 2] rfl ?_
  refine o_pu rfl (ev_move rfl rfl) (g0 rfl) rfl rfl ?_
  refine o_pu rfl (ev_bin rfl rfl rfl rfl (and_64 _ 4294967295)) (g0 rfl) rfl rfl ?_
  refine o_pu rfl (ev_assign rfl rfl) (g0 rfl) rfl rfl ?_
  refine o_nil ?_
  refine q_then ?_
  refine s_seq ?_
  refine s_reg [0, 1, 2] rfl ?_
  refine o_pu rfl (ev_move rfl rfl) (g0 rfl) rfl rfl ?_
  refine o_pu rfl (ev_bin rfl rfl rfl rfl (shr_64 _ 32)) (g0 rfl) rfl rfl ?_
  refine o_pu rfl (ev_assign rfl rfl) (g0 rfl) rfl rfl ?_
  refine o_nil ?_
  refine q_then ?_
  refine s_seq ?_
  refine s_reg [0, 1, 2, 3] rfl ?_
  refine o_pu rfl (ev_move rfl rfl) (g0 rfl) rfl rfl ?_
  refine o_pu rfl (ev_move rfl rfl) (g0 rfl) rfl rfl ?_
  refine o_pu rfl (ev_bin rfl rfl rfl rfl (mul_64 _ _)) (g0 rfl) rfl rfl ?_
  refine o_pu rfl (ev_assign rfl rfl) (g0 rfl) rfl rfl ?_
  refine o_nil ?_
  refine q_then ?_
  refine s_seq ?_
  refine s_reg [0, 1, 2, 3, 4, 5, 6] rfl ?_
  refine o_pu rfl (ev_move rfl rfl) (g0 rfl) rfl rfl ?_
  refine o_pu rfl (ev_move rfl rfl) (g0 rfl) rfl rfl ?_
  refine o_pu rfl (ev_bin rfl rfl rfl rfl (mul_64 _ _)) (g0 rfl) rfl rfl ?_
  refine o_pu rfl (ev_move rfl rfl) (g0 rfl) rfl rfl ?_
  refine o_pu rfl (ev_bin rfl rfl rfl rfl (shr_64 _ 32)) (g0 rfl) rfl rfl ?_
  refine o_pu rfl (ev_bin rfl rfl rfl rfl (add_64 _ _)) (g0 rfl) rfl rfl ?_
  refine o_pu rfl (ev_assign rfl rfl) (g0 rfl) rfl rfl ?_
  refine o_nil ?_
  refine q_then ?_
  refine s_seq ?_
  refine s_reg [0, 1, 2] rfl ?_
  refine o_pu rfl (ev_move rfl rfl) (g0 rfl) rfl rfl ?_
  refine o_pu rfl (ev_bin rfl rfl rfl rfl (and_64 _ 4294967295)) (g0 rfl) rfl rfl ?_
  refine o_pu rfl (ev_assign rfl rfl) (g0 rfl) rfl rfl ?_
  refine o_nil ?_
  refine q_then ?_
  refine s_seq ?_
  refine s_reg [0, 1, 2] rfl ?_
  refine o_pu rfl (ev_move rfl rfl) (g0 rfl) rfl rfl ?_
  refine o_pu rfl (ev_bin rfl rfl rfl rfl (shr_64 _ 32)) (g0 rfl) rfl rfl ?_
  refine o_pu rfl (ev_assign rfl rfl) (g0 rfl) rfl rfl ?_
  refine o_nil ?_
  refine q_then ?_
  refine s_seq ?_
  refine s_reg [0, 1, 2, 3, 4, 5] rfl ?_
  refine o_pu rfl (ev_move rfl rfl) (g0 rfl) rfl rfl ?_
  refine o_pu rfl (ev_move rfl rfl) (g0 rfl) rfl rfl ?_
  refine o_pu rfl (ev_move rfl rfl) (g0 rfl) rfl rfl ?_
  refine o_pu rfl (ev_bin rfl rfl rfl rfl (mul_64 _ _)) (g0 rfl) rfl rfl ?_
  refine o_pu rfl (ev_bin rfl rfl rfl rfl (add_64 _ _)) (g0 rfl) rfl rfl ?_
  refine o_pu rfl (ev_assign rfl rfl) (g0 rfl) rfl rfl ?_
  refine o_nil ?_
  refine q_then ?_
  refine s_seq ?_
  refine s_reg [0, 1, 2, 3, 4, 5, 6, 7, 8] rfl ?_
  refine o_pu rfl (ev_move rfl rfl) (g0 rfl) rfl rfl ?_
  refine o_pu rfl (ev_move rfl rfl) (g0 rfl) rfl rfl ?_
  refine o_pu rfl (ev_bin rfl rfl rfl rfl (mul_64 _ _)) (g0 rfl) rfl rfl ?_
  refine o_pu rfl (ev_move rfl rfl) (g0 rfl) rfl rfl ?_
  refine o_pu rfl (ev_bin rfl rfl rfl rfl (add_64 _ _)) (g0 rfl) rfl rfl ?_
  refine o_pu rfl (ev_move rfl rfl) (g0 rfl) rfl rfl ?_
  refine o_pu rfl (ev_bin rfl rfl rfl rfl (shr_64 _ 32)) (g0 rfl) rfl rfl ?_
  refine o_pu rfl (ev_bin rfl rfl rfl rfl (add_64 _ _)) (g0 rfl) rfl rfl ?_
  refine o_pu rfl (ev_assign rfl rfl) (g0 rfl) rfl rfl ?_
  refine o_nil ?_
  refine q_then ?_
  refine s_seq ?_
  refine s_reg [0, 1, 2, 3] rfl ?_
  refine o_pu rfl (ev_move rfl rfl) (g0 rfl) rfl rfl ?_
  refine o_pu rfl (ev_move rfl rfl) (g0 rfl) rfl rfl ?_
  refine o_pu rfl (ev_bin rfl rfl rfl rfl (mul_64 _ _)) (g0 rfl) rfl rfl ?_
  refine o_pu rfl (ev_assign rfl rfl) (g0 rfl) rfl rfl ?_
  refine o_nil ?_
  refine q_then ?_
  refine s_ret ?_
  cases H
  exact q_end (rs_2 Tryd.results67 (rv_tmp rfl) (rv_tmp rfl)) ⟨rfl, rfl, rfl⟩ [] rfl 0 rfl [] rfl 0 rfl

def sha_first : Option (Arr UInt32 8) :=
some (⟨[(1779033703 : UInt32), (3144134277 : UInt32), (1013904242 : UInt32), (2773480762 : UInt32), (1359893119 : UInt32), (2600822924 : UInt32), (528734635 : UInt32), (1541459225 : UInt32)], rfl⟩ : Arr UInt32 8)

theorem c_sha_first (r : (Arr UInt32 8)) (H : sha_first  = some r) : Fn Tryd.prog 68 [] [] [] (fun v D' G' => v = (.agg (r.l.flatMap E32).toArray) ∧ D' = [] ∧ G' = []) := by
  unfold sha_first at H
  refine fn_of Tryd.func68 rfl Tryd.ntmps68 rfl ?_
  intro w0 D0 G0
  dsimp only [app, initEnv, Nat.zero_add, Nat.reduceAdd]
  refine s_seq ?_
  refine s_reg [0] rfl ?_
  refine oc (k_alloc rfl rfl Tryd.zeroValue130 (cs := (Arr.zero 0 8 : Arr UInt32 8).l.flatMap E32) rfl (g0 rfl) rfl rfl ?_)
  intro b1
  refine o_nil ?_
  refine q_then ?_
  refine s_seq ?_
  refine s_reg [0, 1] rfl ?_
  refine o_pu rfl (ev_build_arr (f := E32) (a := (⟨[(1779033703 : UInt32), (3144134277 : UInt32), (1013904242 : UInt32), (2773480762 : UInt32), (1359893119 : UInt32), (2600822924 : UInt32), (528734635 : UInt32), (1541459225 : UInt32)], rfl⟩ : Arr UInt32 8)) rfl rfl Tryd.zeroValue130 Tryd.runUnderlying130 Tryd.sizeOf124 (fill_all rfl rfl rfl rfl rfl)) (g0 rfl) rfl rfl ?_
  refine oc (k_st (j := 0) rfl rfl rfl rfl (vs := (⟨[(1779033703 : UInt32), (3144134277 : UInt32), (1013904242 : UInt32), (2773480762 : UInt32), (1359893119 : UInt32), (2600822924 : UInt32), (528734635 : UInt32), (1541459225 : UInt32)], rfl⟩ : Arr UInt32 8).l.flatMap E32) rfl (sz (arr_len E32_len _ rfl) Tryd.sizeOf130) (arr_sc E32_one _) 0 rfl (spl_all ((arr_len E32_len _ rfl).trans (arr_len E32_len _ rfl).symm)) rfl (g0 rfl) rfl ?_)
  refine o_nil ?_
  refine q_then ?_
  refine s_ret ?_
  cases H
  exact q_end (rs_1 Tryd.results68 (rv_cell (j := 0) rfl (hG 0 rfl) Tryd.isAgg130 (sz (arr_len E32_len _ rfl) Tryd.sizeOf130) (sub_all _) rfl)) ⟨rfl, rfl, rfl⟩ [] rfl 0 rfl [] rfl 1 rfl

def slices_Concat_l0 (a0_slices : List (List UInt8)) (J10 : (List UInt8) → Option (List UInt8)) : Nat → (List UInt8 × Int) → Option (List UInt8)
  | 0, _ => none
  | k13 + 1, s13 =>
    bif (decide (s13.2 < (a0_slices.length : Int))) then (
    chk (0 ≤ s13.2 ∧ s13.2 < a0_slices.length) <|
    chk (s13.1.length + (at' [] a0_slices s13.2).length ≤ 68719476736) <|
    slices_Concat_l0 a0_slices J10 k13 ((s13.1 ++ (at' [] a0_slices s13.2)), (wrap64 (s13.2 + 1)))) else (
    J10 s13.1)

def slices_Concat_l1 (a0_slices : List (List UInt8)) (J3 : Int → Option (List UInt8)) : Nat → (Int × Int) → Option (List UInt8)
  | 0, _ => none
  | k23 + 1, s23 =>
    bif (decide (s23.2 < (a0_slices.length : Int))) then (
    chk (0 ≤ s23.2 ∧ s23.2 < a0_slices.length) <|
    bif (decide ((wrap64 (s23.1 + ((at' [] a0_slices s23.2).length : Int))) < 0)) then (
    none) else (
    slices_Concat_l1 a0_slices J3 k23 ((wrap64 (s23.1 + ((at' [] a0_slices s23.2).length : Int))), (wrap64 (s23.2 + 1))))) else (
    J3 s23.1)

def slices_Concat (a0_slices : List (List UInt8)) : Option (List UInt8) :=
jn (fun (x4 : Int) =>
(slices_Grow x4).bind fun r6 =>
jn (fun (x11 : List UInt8) =>
some x11) fun J10 =>
slices_Concat_l0 a0_slices J10 Fuel (r6, 0)) fun J3 =>
slices_Concat_l1 a0_slices J3 Fuel (0, 0)

theorem c_slices_Concat (a0_slices : List (List UInt8)) (A1 : Option Addr) (c2 : Nat) (r : (List UInt8)) (H : slices_Concat a0_slices = some r) : Fn Tryd.prog 69 [(.slice A1 a0_slices.length c2)] [Sls A1 c2 a0_slices] [] (fun v D' G' => ∃ (A32 : Option Addr) (c33 : Nat), v = (.slice A32 r.length c33) ∧ D' = [Sl E8 A32 c33 r] ∧ G' = [Spare A32 r.length c33 1]) := by
  unfold slices_Concat at H
  refine fn_of Tryd.func69 rfl Tryd.ntmps69 rfl ?_
  intro w0 D0 G0
  dsimp only [app, initEnv, Nat.zero_add, Nat.reduceAdd]
  refine s_seq ?_
  refine s_reg [0] rfl ?_
  refine o_pu rfl (ev_assign rfl rfl) (g0 rfl) rfl rfl ?_
  refine o_nil ?_
  refine q_then ?_
  refine s_seq ?_
  refine s_reg [0] rfl ?_
  refine o_pu rfl (ev_assign rfl rfl) (g0 rfl) rfl rfl ?_
  refine o_nil ?_
  refine q_then ?_
  refine s_seq ?_
  refine s_seq ?_
  refine s_reg [0, 1, 2] rfl ?_
  refine o_pu rfl (ev_move rfl rfl) (g0 rfl) rfl rfl ?_
  refine o_pu rfl (ev_len_slice rfl rfl Tryd.runUnderlying150) (g0 rfl) rfl rfl ?_
  refine o_pu rfl (ev_move rfl rfl) (g0 rfl) rfl rfl ?_
  refine o_nil ?_
  refine q_then ?_
  refine q_join (fun (x4 : Int) (y5 : Unit) => ⟨Sls A1 c2 a0_slices :: D0, G0, [(0, (.slice A1 a0_slices.length c2)), (3, (vi x4))]⟩) H ?_ ?_
  · intro x4 y5 H
    dsimp only
    refine q_then ?_
    refine s_seq ?_
    refine s_reg [0, 1, 2] rfl ?_
    refine o_pu rfl (ev_move rfl rfl) (g0 rfl) rfl rfl ?_
    obtain ⟨r6, Hc7, H⟩ := bind_some' H
    refine oc (k_call (c_slices_Grow x4 r6 Hc7) Tryd.call100 rfl rfl rfl [] [] rfl rfl (g0 rfl) rfl rfl ?_)
    rintro _ _ _ ⟨A8, c9, rfl, rfl, rfl⟩
    dsimp only [app]
    refine o_pu rfl (ev_assign rfl rfl) (g0 rfl) rfl rfl ?_
    refine o_nil ?_
    refine q_then ?_
    refine s_seq ?_
    refine s_seq ?_
    refine s_reg [0, 1, 2] rfl ?_
    refine o_pu rfl (ev_move rfl rfl) (g0 rfl) rfl rfl ?_
    refine o_pu rfl (ev_len_slice rfl rfl Tryd.runUnderlying150) (g0 rfl) rfl rfl ?_
    refine o_pu rfl (ev_move rfl rfl) (g0 rfl) rfl rfl ?_
    refine o_nil ?_
    refine q_then ?_
    refine q_join (fun (x11 : List UInt8) (y12 : Option Addr × Nat) => ⟨Sl E8 y12.1 y12.2 x11 :: Sl E8 A8 c9 r6 :: Sls A1 c2 a0_slices :: D0, Spare y12.1 x11.length y12.2 1 :: G0, [(6, (.slice y12.1 x11.length y12.2))]⟩) H ?_ ?_
    · intro x11 y12 H
      dsimp only
      refine q_then ?_
      refine s_seq ?_
      refine s_reg [0, 1] rfl ?_
      refine o_pu rfl (ev_move rfl rfl) (g0 rfl) rfl rfl ?_
      refine o_pu rfl (ev_assign rfl rfl) (g0 rfl) rfl rfl ?_
      refine o_nil ?_
      refine q_then ?_
      refine s_ret ?_
      cases H
      exact q_end (rs_1 Tryd.results69 (rv_tmp rfl)) ⟨y12.1, y12.2, rfl, rfl, rfl⟩ [0] rfl 3 rfl [0] rfl 0 rfl
    · intro J10 H
      refine s_block ?_
      refine s_loop (k_wk (loop_ind (fun (s13 : List UInt8 × Int) (y13 : Option Addr × Nat) => ⟨Sl E8 y13.1 y13.2 s13.1 :: Sl E8 A8 c9 r6 :: Sls A1 c2 a0_slices :: D0, Spare y13.1 s13.1.length y13.2 1 :: G0, [(6, (.slice y13.1 s13.1.length y13.2)), (25, (.slice A1 a0_slices.length c2)), (26, (vi (a0_slices.length : Int))), (27, (vi s13.2))]⟩) (slices_Concat_l0 a0_slices _) _ (fun _ => rfl) ?_ Fuel (r6, 0) (A8, c9) H) [6, 25, 26, 27] [0, 0, 1] 2 [0] 0 rfl rfl rfl)
      intro k13 s13 y13 ih H
      dsimp only
      rw [slices_Concat_l0] at H
      refine s_seq ?_
      refine s_reg [0] rfl ?_
      refine o_pu rfl (ev_bin rfl rfl rfl rfl (lss_i _ _)) (g0 rfl) rfl rfl ?_
      refine o_nil ?_
      refine q_then ?_
      refine s_seq ?_
      refine s_cond rfl ?_ ?_
      · intro hb14
        have H := cnd_t H hb14
        refine s_skip ?_
        refine q_then ?_
        refine s_seq ?_
        refine s_block ?_
        refine s_seq ?_
        refine s_reg [0, 1, 2] rfl ?_
        obtain ⟨hk19, H⟩ := chk_some H
        refine oc (k_idx_sls 2 rfl rfl rfl rfl rfl Tryd.runUnderlying150 Tryd.sizeOf32 hk19 (g0 rfl) rfl rfl ?_)
        intro b15 q16 A17 c18
        refine o_ld (hD 1 rfl) rfl (ev_ld1 (j := 0) rfl rfl Tryd.isAgg32 (sub_nth (j := 0) rfl) rfl) (g0 rfl) rfl rfl ?_
        refine o_pu rfl (ev_assign rfl rfl) (g0 rfl) rfl rfl ?_
        refine o_nil ?_
        refine q_then ?_
        refine s_reg [0, 1, 2, 3] rfl ?_
        refine o_pu rfl (ev_move rfl rfl) (g0 rfl) rfl rfl ?_
        refine o_pu rfl (ev_move rfl rfl) (g0 rfl) rfl rfl ?_
        obtain ⟨hk22, H⟩ := chk_some H
        refine oc (k_append 2 0 0 rfl rfl rfl rfl rfl rfl rfl E8_len E8_one Tryd.underlying32 Tryd.underlying32 info5 rfl rfl rfl rfl hk22 (g0 rfl) rfl rfl ?_)
        intro A20 c21
        refine o_pu rfl (ev_assign rfl rfl) (g0 rfl) rfl rfl ?_
        refine o_nil ?_
        refine q_block ?_
        refine q_then ?_
        refine s_reg [0, 1] rfl ?_
        refine o_pu rfl (ev_bin rfl rfl rfl rfl (add_i _ 1)) (g0 rfl) rfl rfl ?_
        refine o_pu rfl (ev_move rfl rfl) (g0 rfl) rfl rfl ?_
        refine o_nil ?_
        refine q_loop ?_
        exact k_wk (ih ((s13.1 ++ (at' [] a0_slices s13.2)), (wrap64 (s13.2 + 1))) (A20, c21) H) [6, 25, 26, 27] [0, 4, 5] 6 [0] 0 rfl rfl rfl
      · intro hb14
        have H := cnd_f H hb14
        refine s_exit ?_
        refine q_then_x ?_
        refine q_then_x ?_
        refine q_block_x ?_
        exact k_wk (J10 s13.1 (y13.1, y13.2) H) [6] [0, 1, 2] 3 [0] 0 rfl rfl rfl
  · intro J3 H
    refine s_block ?_
    refine s_loop (k_wk (loop_ind (fun (s23 : Int × Int) (y23 : Unit) => ⟨Sls A1 c2 a0_slices :: D0, G0, [(0, (.slice A1 a0_slices.length c2)), (3, (vi s23.1)), (9, (.slice A1 a0_slices.length c2)), (10, (vi (a0_slices.length : Int))), (11, (vi s23.2))]⟩) (slices_Concat_l1 a0_slices _) _ (fun _ => rfl) ?_ Fuel (0, 0) () H) [0, 3, 9, 10, 11] [0] 1 [] 0 rfl rfl rfl)
    intro k23 s23 y23 ih H
    dsimp only
    rw [slices_Concat_l1] at H
    refine s_seq ?_
    refine s_reg [0] rfl ?_
    refine o_pu rfl (ev_bin rfl rfl rfl rfl (lss_i _ _)) (g0 rfl) rfl rfl ?_
    refine o_nil ?_
    refine q_then ?_
    refine s_seq ?_
    refine s_cond rfl ?_ ?_
    · intro hb24
      have H := cnd_t H hb24
      refine s_skip ?_
      refine q_then ?_
      refine s_seq ?_
      refine s_block ?_
      refine s_seq ?_
      refine s_reg [0, 1, 2] rfl ?_
      obtain ⟨hk29, H⟩ := chk_some H
      refine oc (k_idx_sls 0 rfl rfl rfl rfl rfl Tryd.runUnderlying150 Tryd.sizeOf32 hk29 (g0 rfl) rfl rfl ?_)
      intro b25 q26 A27 c28
      refine o_ld (hD 1 rfl) rfl (ev_ld1 (j := 0) rfl rfl Tryd.isAgg32 (sub_nth (j := 0) rfl) rfl) (g0 rfl) rfl rfl ?_
      refine o_pu rfl (ev_assign rfl rfl) (g0 rfl) rfl rfl ?_
      refine o_nil ?_
      refine q_then ?_
      refine s_seq ?_
      refine s_reg [0, 1, 2, 3, 4] rfl ?_
      refine o_pu rfl (ev_move rfl rfl) (g0 rfl) rfl rfl ?_
      refine o_pu rfl (ev_move rfl rfl) (g0 rfl) rfl rfl ?_
      refine o_pu rfl (ev_len_slice rfl rfl Tryd.runUnderlying32) (g0 rfl) rfl rfl ?_
      refine o_pu rfl (ev_bin rfl rfl rfl rfl (add_i _ _)) (g0 rfl) rfl rfl ?_
      refine o_pu rfl (ev_assign rfl rfl) (g0 rfl) rfl rfl ?_
      refine o_nil ?_
      refine q_then ?_
      refine s_seq ?_
      refine s_reg [0, 1] rfl ?_
      refine o_pu rfl (ev_move rfl rfl) (g0 rfl) rfl rfl ?_
      refine o_pu rfl (ev_bin rfl rfl rfl rfl (lss_i _ 0)) (g0 rfl) rfl rfl ?_
      refine o_nil ?_
      refine q_then ?_
      refine s_cond rfl ?_ ?_
      · intro hb31
        have H := cnd_t H hb31
        refine s_reg [0, 1] rfl ?_
        cases H
      · intro hb31
        have H := cnd_f H hb31
        refine s_skip ?_
        refine q_block ?_
        refine q_then ?_
        refine s_reg [0, 1] rfl ?_
        refine o_pu rfl (ev_bin rfl rfl rfl rfl (add_i _ 1)) (g0 rfl) rfl rfl ?_
        refine o_pu rfl (ev_move rfl rfl) (g0 rfl) rfl rfl ?_
        refine o_nil ?_
        refine q_loop ?_
        exact k_wk (ih ((wrap64 (s23.1 + ((at' [] a0_slices s23.2).length : Int))), (wrap64 (s23.2 + 1))) () H) [0, 3, 9, 10, 11] [2] 3 [] 0 rfl rfl rfl
    · intro hb24
      have H := cnd_f H hb24
      refine s_exit ?_
      refine q_then_x ?_
      refine q_then_x ?_
      refine q_block_x ?_
      exact k_wk (J3 s23.1 () H) [0, 3] [0] 1 [] 0 rfl rfl rfl

def meta_none (a0_i : Img) : Option Bool :=
some (decide (a0_i = Img.zero))

theorem c_meta_none (a0_i : Img) (r : Bool) (H : meta_none a0_i = some r) : Fn Tryd.prog 74 [(.agg (Img.cells a0_i).toArray)] [] [] (fun v D' G' => v = (vb r) ∧ D' = [] ∧ G' = []) := by
  unfold meta_none at H
  refine fn_of Tryd.func74 rfl Tryd.ntmps74 rfl ?_
  intro w0 D0 G0
  dsimp only [app, initEnv, Nat.zero_add, Nat.reduceAdd]
  refine s_seq ?_
  refine s_reg [0, 1] rfl ?_
  refine oc (k_box rfl rfl rfl (cs := Img.cells a0_i) rfl (g0 rfl) rfl rfl ?_)
  intro b1
  refine o_pu rfl (ev_assign rfl rfl) (g0 rfl) rfl rfl ?_
  refine o_nil ?_
  refine q_then ?_
  refine s_seq ?_
  refine s_reg [0, 1, 2, 3] rfl ?_
  refine o_ld (hG 0 rfl) rfl (ev_ldN (j := 0) rfl rfl Tryd.isAgg71 (sz (Img.len _) Tryd.sizeOf71) (sub_all _) rfl) (g0 rfl) rfl rfl ?_
  refine o_pu rfl (ev_build (cs := Img.cells Img.zero) rfl rfl Tryd.zeroValue71 Tryd.runUnderlying71 pl71 (show Instr.fill _ (Img.cells Img.zero : List Value).toArray _ = some _ from fill_nil)) (g0 rfl) rfl rfl ?_
  refine o_pu rfl (ev_eqA (f := Img.cells) (X := a0_i) (Y := Img.zero) rfl rfl rfl eqT71 rfl Tryd.isAgg71 Tryd.sizeOf71 Img.len eqG71) (g0 rfl) rfl rfl ?_
  refine o_pu rfl (ev_assign rfl rfl) (g0 rfl) rfl rfl ?_
  refine o_nil ?_
  refine q_then ?_
  refine s_ret ?_
  cases H
  exact q_end (rs_1 Tryd.results74 (rv_tmp rfl)) ⟨rfl, rfl, rfl⟩ [] rfl 0 rfl [] rfl 1 rfl

def update_fails (a0_e : Int) : Option ChangeS :=
some (⟨MetaS.zero, (⟨a0_e, 0, 0⟩ : RespS)⟩ : ChangeS)

theorem c_update_fails (a0_e : Int) (r : ChangeS) (H : update_fails a0_e = some r) : Fn Tryd.prog 84 [(vi a0_e)] [] [] (fun v D' G' => v = (.agg (ChangeS.cells r).toArray) ∧ D' = [] ∧ G' = []) := by
  unfold update_fails at H
  refine fn_of Tryd.func84 rfl Tryd.ntmps84 rfl ?_
  intro w0 D0 G0
  dsimp only [app, initEnv, Nat.zero_add, Nat.reduceAdd]
  refine s_seq ?_
  refine s_reg [0] rfl ?_
  refine oc (k_alloc rfl rfl Tryd.zeroValue109 (cs := ChangeS.cells ChangeS.zero) rfl (g0 rfl) rfl rfl ?_)
  intro b1
  refine o_nil ?_
  refine q_then ?_
  refine s_seq ?_
  refine s_reg [0, 1, 2, 3] rfl ?_
  refine o_pu rfl (ev_move rfl rfl) (g0 rfl) rfl rfl ?_
  refine o_pu rfl (ev_build (cs := RespS.cells (⟨a0_e, 0, 0⟩ : RespS)) rfl rfl Tryd.zeroValue48 Tryd.runUnderlying48 pl48 (show Instr.fill _ (RespS.cells RespS.zero : List Value).toArray _ = some _ from (fill_cons rfl (s := [vi a0_e]) rfl rfl (RespS.set_Err _ a0_e) fill_nil))) (g0 rfl) rfl rfl ?_
  refine o_pu rfl (ev_build (cs := ChangeS.cells (⟨MetaS.zero, (⟨a0_e, 0, 0⟩ : RespS)⟩ : ChangeS)) rfl rfl Tryd.zeroValue109 Tryd.runUnderlying109 pl109 (show Instr.fill _ (ChangeS.cells ChangeS.zero : List Value).toArray _ = some _ from (fill_cons rfl (s := RespS.cells (⟨a0_e, 0, 0⟩ : RespS)) rfl (RespS.len _) (ChangeS.set_r _ (⟨a0_e, 0, 0⟩ : RespS)) fill_nil))) (g0 rfl) rfl rfl ?_
  refine oc (k_st (j := 0) rfl rfl rfl rfl (vs := ChangeS.cells (⟨MetaS.zero, (⟨a0_e, 0, 0⟩ : RespS)⟩ : ChangeS)) rfl (sz (ChangeS.len _) Tryd.sizeOf109) (ChangeS.sc _) 0 rfl (spl_all ((ChangeS.len _).trans (ChangeS.len _).symm)) rfl (g0 rfl) rfl ?_)
  refine o_nil ?_
  refine q_then ?_
  refine s_ret ?_
  cases H
  exact q_end (rs_1 Tryd.results84 (rv_cell (j := 0) rfl (hG 0 rfl) Tryd.isAgg109 (sz (ChangeS.len _) Tryd.sizeOf109) (sub_all _) rfl)) ⟨rfl, rfl, rfl⟩ [] rfl 0 rfl [] rfl 1 rfl

def field_NewReader (a0_b : List UInt8) : Option ReaderS :=
(slices_Clone a0_b).bind fun r3 =>
some (⟨r3, false⟩ : ReaderS)

theorem c_field_NewReader (a0_b : List UInt8) (A1 : Option Addr) (c2 : Nat) (r : ReaderS) (H : field_NewReader a0_b = some r) : Fn Tryd.prog 85 [(.slice A1 a0_b.length c2)] [Sl E8 A1 c2 a0_b] [] (fun v D' G' => ∃ (b8 : Nat) (A9 : Option Addr) (c10 : Nat), v = (.pointer (some ⟨b8, 0, none⟩)) ∧ D' = [Sl E8 A9 c10 r.b] ∧ G' = [At b8 0 [.slice A9 r.b.length c10, vb r.bad]]) := by
  unfold field_NewReader at H
  refine fn_of Tryd.func85 rfl Tryd.ntmps85 rfl ?_
  intro w0 D0 G0
  dsimp only [app, initEnv, Nat.zero_add, Nat.reduceAdd]
  refine s_seq ?_
  refine s_reg [0] rfl ?_
  refine o_pu rfl (ev_assign rfl rfl) (g0 rfl) rfl rfl ?_
  refine o_nil ?_
  refine q_then ?_
  refine s_seq ?_
  refine s_reg [0, 1, 2, 3, 4] rfl ?_
  refine o_pu rfl (ev_move rfl rfl) (g0 rfl) rfl rfl ?_
  obtain ⟨r3, Hc4, H⟩ := bind_some' H
  refine oc (k_call (c_slices_Clone a0_b A1 c2 r3 Hc4) Tryd.call30 rfl rfl rfl [0] [] rfl rfl (g0 rfl) rfl rfl ?_)
  rintro _ _ _ ⟨A5, c6, rfl, rfl, rfl⟩
  dsimp only [app]
  refine o_pu rfl (ev_build (cs := [.slice A5 r3.length c6, vb false]) rfl rfl Tryd.zeroValue163 Tryd.runUnderlying163 pl163 (show Instr.fill _ ([.slice none 0 0, vb false] : List Value).toArray _ = some _ from (fill_cons rfl (s := [.slice A5 r3.length c6]) rfl rfl (spl_lit (j := 0) (cs' := [.slice A5 r3.length c6, vb false]) rfl rfl) fill_nil))) (g0 rfl) rfl rfl ?_
  refine oc (k_box rfl rfl rfl (cs := [.slice A5 r3.length c6, vb false]) rfl (g0 rfl) rfl rfl ?_)
  intro b7
  refine o_pu rfl (ev_assign rfl rfl) (g0 rfl) rfl rfl ?_
  refine o_nil ?_
  refine q_then ?_
  refine s_ret ?_
  cases H
  exact q_end (rs_1 Tryd.results85 (rv_tmp rfl)) ⟨b7, A5, c6, rfl, rfl, rfl⟩ [0] rfl 2 rfl [0] rfl 1 rfl

def manifest_number (a0_n : Int) : Option Bool :=
bnd (decide (a0_n ≥ 1)) fun b1 =>
jn (fun x4 =>
some x4) fun J3 =>
bif b1 then (
J3 (decide (a0_n ≤ 1073741824))) else
J3 false

theorem c_manifest_number (a0_n : Int) (r : Bool) (H : manifest_number a0_n = some r) : Fn Tryd.prog 89 [(vi a0_n)] [] [] (fun v D' G' => v = (vb r) ∧ D' = [] ∧ G' = []) := by
  unfold manifest_number at H
  refine fn_of Tryd.func89 rfl Tryd.ntmps89 rfl ?_
  intro w0 D0 G0
  dsimp only [app, initEnv, Nat.zero_add, Nat.reduceAdd]
  refine s_seq ?_
  refine s_reg [0] rfl ?_
  refine o_pu rfl (ev_assign rfl rfl) (g0 rfl) rfl rfl ?_
  refine o_nil ?_
  refine q_then ?_
  refine s_seq ?_
  refine s_reg [0, 1, 2, 3, 4, 5, 6] rfl ?_
  refine o_pu rfl (ev_move rfl rfl) (g0 rfl) rfl rfl ?_
  refine o_pu rfl (ev_bin rfl rfl rfl rfl (geq_i _ 1)) (g0 rfl) rfl rfl ?_
  refine o_pu rfl (ev_move rfl rfl) (g0 rfl) rfl rfl ?_
  refine k_name 5 rfl ?_
  intro b1 hb2
  have H := bnd_eq H hb2
  refine o_jb 8 [6] [0, 2, 3, 4, 5] H rfl ?_ ?_
  · intro x4 H
    refine o_pu rfl (ev_assign rfl rfl) (g0 rfl) rfl rfl ?_
    refine o_nil ?_
    refine q_then ?_
    refine s_ret ?_
    cases H
    exact q_end (rs_1 Tryd.results89 (rv_tmp rfl)) ⟨rfl, rfl, rfl⟩ [] rfl 0 rfl [] rfl 0 rfl
  · intro J3 H
    cases b1 with
    | true =>
      rw [cond_true] at H
      refine o_pu rfl (ev_move rfl rfl) (g1 rfl rfl rfl rfl) rfl rfl ?_
      refine o_pu rfl (ev_bin rfl rfl rfl rfl (leq_i _ 1073741824)) (g1 rfl rfl rfl rfl) rfl rfl ?_
      refine o_pu rfl (ev_pick_t rfl rfl rfl) (g0 rfl) rfl rfl ?_
      exact k_wk (J3 (decide (a0_n ≤ 1073741824)) H) [8, 0, 2, 3, 4, 5] [] 0 [] 0 rfl rfl rfl
    | false =>
      rw [cond_false] at H
      refine o_gnot rfl rfl rfl rfl rfl rfl rfl rfl ?_
      refine o_gnot rfl rfl rfl rfl rfl rfl rfl rfl ?_
      refine o_pu rfl (ev_pick_f rfl rfl rfl) (g0 rfl) rfl rfl ?_
      exact k_wk (J3 false H) [8, 0, 2, 3, 4, 5] [] 0 [] 0 rfl rfl rfl

def internal_bytealg_Cutover (a0_n : Int) : Option Int :=
some (wrap64 ((wrap64 (a0_n + 16)).tdiv 8))

theorem c_internal_bytealg_Cutover (a0_n : Int) (r : Int) (H : internal_bytealg_Cutover a0_n = some r) : Fn Tryd.prog 94 [(vi a0_n)] [] [] (fun v D' G' => v = (vi r) ∧ D' = [] ∧ G' = []) := by
  unfold internal_bytealg_Cutover at H
  refine fn_of Tryd.func94 rfl Tryd.ntmps94 rfl ?_
  intro w0 D0 G0
  dsimp only [app, initEnv, Nat.zero_add, Nat.reduceAdd]
  refine s_seq ?_
  refine s_reg [0] rfl ?_
  refine o_pu rfl (ev_assign rfl rfl) (g0 rfl) rfl rfl ?_
  refine o_nil ?_
  refine q_then ?_
  refine s_seq ?_
  refine s_reg [0, 1, 2, 3] rfl ?_
  refine o_pu rfl (ev_move rfl rfl) (g0 rfl) rfl rfl ?_
  refine o_pu rfl (ev_bin rfl rfl rfl rfl (add_i _ 16)) (g0 rfl) rfl rfl ?_
  refine o_pu rfl (ev_bin rfl rfl rfl rfl (quo_i _ 8 rfl)) (g0 rfl) rfl rfl ?_
  refine o_pu rfl (ev_assign rfl rfl) (g0 rfl) rfl rfl ?_
  refine o_nil ?_
  refine q_then ?_
  refine s_ret ?_
  cases H
  exact q_end (rs_1 Tryd.results94 (rv_tmp rfl)) ⟨rfl, rfl, rfl⟩ [] rfl 0 rfl [] rfl 0 rfl

def turn_Bytes (a0_x : UInt32) : Option (List UInt8) :=
some ([(shr32 (a0_x : UInt32) (24 : UInt64).toNat).toUInt8, (shr32 (a0_x : UInt32) (16 : UInt64).toNat).toUInt8, (shr32 (a0_x : UInt32) (8 : UInt64).toNat).toUInt8, a0_x.toUInt8] : List UInt8)

theorem c_turn_Bytes (a0_x : UInt32) (r : (List UInt8)) (H : turn_Bytes a0_x = some r) : Fn Tryd.prog 104 [(v32 a0_x)] [] [] (fun v D' G' => ∃ (A2 : Option Addr) (c3 : Nat), v = (.slice A2 r.length c3) ∧ D' = [Sl E8 A2 c3 r] ∧ G' = []) := by
  unfold turn_Bytes at H
  refine fn_of Tryd.func104 rfl Tryd.ntmps104 rfl ?_
  intro w0 D0 G0
  dsimp only [app, initEnv, Nat.zero_add, Nat.reduceAdd]
  refine s_seq ?_
  refine s_reg [0] rfl ?_
  refine o_pu rfl (ev_assign rfl rfl) (g0 rfl) rfl rfl ?_
  refine o_nil ?_
  refine q_then ?_
  refine s_seq ?_
  refine s_reg [0, 1, 2, 3, 4, 5, 6, 7, 8, 9, 10, 11, 12] rfl ?_
  refine o_pu rfl (ev_move rfl rfl) (g0 rfl) rfl rfl ?_
  refine o_pu rfl (ev_bin rfl rfl rfl rfl (shr_32 _ 24)) (g0 rfl) rfl rfl ?_
  refine o_pu rfl (ev_conv rfl rfl (conv_u32_u8 _ Tryd.runUnderlying124 Tryd.runUnderlying5)) (g0 rfl) rfl rfl ?_
  refine o_pu rfl (ev_move rfl rfl) (g0 rfl) rfl rfl ?_
  refine o_pu rfl (ev_bin rfl rfl rfl rfl (shr_32 _ 16)) (g0 rfl) rfl rfl ?_
  refine o_pu rfl (ev_conv rfl rfl (conv_u32_u8 _ Tryd.runUnderlying124 Tryd.runUnderlying5)) (g0 rfl) rfl rfl ?_
  refine o_pu rfl (ev_move rfl rfl) (g0 rfl) rfl rfl ?_
  refine o_pu rfl (ev_bin rfl rfl rfl rfl (shr_32 _ 8)) (g0 rfl) rfl rfl ?_
  refine o_pu rfl (ev_conv rfl rfl (conv_u32_u8 _ Tryd.runUnderlying124 Tryd.runUnderlying5)) (g0 rfl) rfl rfl ?_
  refine o_pu rfl (ev_move rfl rfl) (g0 rfl) rfl rfl ?_
  refine o_pu rfl (ev_conv rfl rfl (conv_u32_u8 _ Tryd.runUnderlying124 Tryd.runUnderlying5)) (g0 rfl) rfl rfl ?_
  refine oc (k_buildSlice (f := E8) ([(shr32 (a0_x : UInt32) (24 : UInt64).toNat).toUInt8, (shr32 (a0_x : UInt32) (16 : UInt64).toNat).toUInt8, (shr32 (a0_x : UInt32) (8 : UInt64).toNat).toUInt8, a0_x.toUInt8] : List UInt8) rfl rfl rfl rfl Tryd.runUnderlying32 Tryd.sizeOf5 Tryd.zeroValue5 rfl rfl (fill_all rfl rfl (by simp) rfl rfl) (g0 rfl) rfl rfl ?_)
  intro b1
  refine o_pu rfl (ev_assign rfl rfl) (g0 rfl) rfl rfl ?_
  refine o_nil ?_
  refine q_then ?_
  refine s_ret ?_
  cases H
  exact q_end (rs_1 Tryd.results104 (rv_tmp rfl)) ⟨(some ⟨b1, 0, none⟩), 4, rfl, rfl, rfl⟩ [0] rfl 1 rfl [] rfl 0 rfl

end Go.Proofs.YtphbbnlbfbhcaaaDoor.Wl
