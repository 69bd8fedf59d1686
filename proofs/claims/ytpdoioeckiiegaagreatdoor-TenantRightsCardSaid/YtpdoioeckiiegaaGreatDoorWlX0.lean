import Derived.Test.YtpdoioeckiiegaaGreatDoorWlW
set_option linter.unusedSimpArgs false
set_option linter.unusedVariables false
set_option maxRecDepth 10000
namespace Go.Proofs.YtpdoioeckiiegaaGreatDoor.Wl
open Go.RowKit Go.Proofs
def tenant_Tenant_Do_n0 (a1_q : Req) : Option (RespS × Bool) :=
some ((⟨16, 0, 0⟩ : RespS), true)

theorem c_tenant_Tenant_Do_n0 (a1_q : Req) (A1 : Option Addr) (c2 : Nat) (r : RespS × Bool) (H : tenant_Tenant_Do_n0 a1_q = some r) : Fn Tryz.prog 16 [(.pointer none), (.agg ([vi a1_q.Kind, vi a1_q.N, .slice A1 a1_q.Bytes.length c2]).toArray)] [Sl E8 A1 c2 a1_q.Bytes] [] (fun v D' G' => v = (.tuple #[(.agg (RespS.cells r.1).toArray), (vb r.2)]) ∧ D' = [] ∧ G' = []) := by
  unfold tenant_Tenant_Do_n0 at H
  refine fn_of Tryz.func16 rfl Tryz.ntmps16 rfl ?_
  intro w0 D0 G0
  dsimp only [app, initEnv, Nat.zero_add, Nat.reduceAdd]
  refine s_seq ?_
  refine s_reg [0, 1, 2] rfl ?_
  refine oc (k_box rfl rfl rfl (cs := [vi a1_q.Kind, vi a1_q.N, .slice A1 a1_q.Bytes.length c2]) rfl (g0 rfl) rfl rfl ?_)
  intro b3
  refine oc (k_alloc rfl rfl Tryz.zeroValue40 (cs := RespS.cells RespS.zero) rfl (g0 rfl) rfl rfl ?_)
  intro b4
  refine o_run ft [2] rfl rfl ?_
  refine o_nil ?_
  refine q_then ?_
  refine s_seq ?_
  refine s_seq ?_
  refine s_reg [0, 1] rfl ?_
  refine o_run ft [0] rfl rfl ?_
  refine o_pu rfl (ev_bin rfl rfl rfl rfl (eql_ptr_nn Tryz.runUnderlying33)) (g0 rfl) rfl rfl ?_
  refine o_nil ?_
  refine q_then ?_
  refine s_cond_t rfl ?_
  refine s_seq ?_
  refine s_reg [0, 1, 2] rfl ?_
  refine o_pu rfl (ev_build (cs := RespS.cells (⟨16, 0, 0⟩ : RespS)) rfl rfl Tryz.zeroValue40 Tryz.runUnderlying40 pl40 (show Instr.fill _ (RespS.cells RespS.zero : List Value).toArray _ = some _ from (fill_cons rfl (s := [vi 16]) rfl rfl (RespS.set_Err _ 16) fill_nil))) (g0 rfl) rfl rfl ?_
  refine oc (k_st (j := 0) rfl rfl rfl rfl (vs := RespS.cells (⟨16, 0, 0⟩ : RespS)) rfl (sz (RespS.len _) Tryz.sizeOf40) (RespS.sc _) 0 rfl (spl_all ((RespS.len _).trans (RespS.len _).symm)) rfl (g0 rfl) rfl ?_)
  refine o_run ft [2] rfl rfl ?_
  refine o_nil ?_
  refine q_then ?_
  refine s_ret ?_
  refine q_then_r ?_
  cases H
  exact q_end (rs_2 Tryz.results16 (rv_cell (j := 0) rfl (hG 0 rfl) Tryz.isAgg40 (sz (RespS.len _) Tryz.sizeOf40) (sub_all _) rfl) (rv_tmp rfl)) ⟨rfl, rfl, rfl⟩ [] rfl 1 rfl [] rfl 2 rfl

def law20_config (a0_budget : Int) : Option Config :=
some (⟨([206, 177, 98] : List UInt8), ([107, 101, 121] : List UInt8), 2, a0_budget, 2, 1022, ([102, 105, 114, 115, 116, 32, 105, 109, 97, 103, 101] : List UInt8)⟩ : Config)

theorem c_law20_config (a0_budget : Int) (r : Config) (H : law20_config a0_budget = some r) : Fn Tryz.prog 10 [(vi a0_budget)] [] [] (fun v D' G' => ∃ (A4 : Option Addr) (c5 : Nat) (A6 : Option Addr) (c7 : Nat), v = (.agg ([vs r.Name, .slice A4 r.Key.length c5, vi r.Slot, vi r.Budget, vi r.Quota, vi r.Rights, .slice A6 r.First.length c7]).toArray) ∧ D' = [Sl E8 A6 c7 r.First, Sl E8 A4 c5 r.Key] ∧ G' = []) := by
  unfold law20_config at H
  refine fn_of Tryz.func10 rfl Tryz.ntmps10 rfl ?_
  intro w0 D0 G0
  dsimp only [app, initEnv, Nat.zero_add, Nat.reduceAdd]
  refine s_seq ?_
  refine s_reg [0] rfl ?_
  refine oc (k_alloc rfl rfl Tryz.zeroValue25 (cs := [vs [], .slice none 0 0, vi 0, vi 0, vi 0, vi 0, .slice none 0 0]) rfl (g0 rfl) rfl rfl ?_)
  intro b1
  refine o_nil ?_
  refine q_then ?_
  refine s_seq ?_
  refine s_reg [0, 1, 2, 3, 4, 5, 6] rfl ?_
  refine o_lit ([107, 101, 121] : List UInt8) rfl rfl rfl rfl Tryz.underlying22 Tryz.underlying5 Tryz.sizeOf5 Tryz.zeroValue5 rfl rfl (fill_all rfl rfl (by simp) rfl rfl) (g0 rfl) rfl rfl rfl rfl (fun _ => (g0 rfl)) rfl rfl ?_
  intro b2
  refine o_run ft [2] rfl rfl ?_
  refine o_lit ([102, 105, 114, 115, 116, 32, 105, 109, 97, 103, 101] : List UInt8) rfl rfl rfl rfl Tryz.underlying22 Tryz.underlying5 Tryz.sizeOf5 Tryz.zeroValue5 rfl rfl (fill_all rfl rfl (by simp) rfl rfl) (g0 rfl) rfl rfl rfl rfl (fun _ => (g0 rfl)) rfl rfl ?_
  intro b3
  refine o_pu rfl (ev_build (cs := [vs ([206, 177, 98] : List UInt8), .slice (some ⟨b2, 0, none⟩) ([107, 101, 121] : List UInt8).length 3, vi 2, vi a0_budget, vi 2, vi 1022, .slice (some ⟨b3, 0, none⟩) ([102, 105, 114, 115, 116, 32, 105, 109, 97, 103, 101] : List UInt8).length 11]) rfl rfl Tryz.zeroValue25 Tryz.runUnderlying25 pl25 (show Instr.fill _ ([vs [], .slice none 0 0, vi 0, vi 0, vi 0, vi 0, .slice none 0 0] : List Value).toArray _ = some _ from (fill_cons rfl (s := [vs ([206, 177, 98] : List UInt8)]) rfl rfl (spl_lit (j := 0) (cs' := [vs ([206, 177, 98] : List UInt8), .slice none 0 0, vi 0, vi 0, vi 0, vi 0, .slice none 0 0]) rfl rfl) (fill_cons rfl (s := [.slice (some ⟨b2, 0, none⟩) ([107, 101, 121] : List UInt8).length 3]) rfl rfl (spl_lit (j := 1) (cs' := [vs ([206, 177, 98] : List UInt8), .slice (some ⟨b2, 0, none⟩) ([107, 101, 121] : List UInt8).length 3, vi 0, vi 0, vi 0, vi 0, .slice none 0 0]) rfl rfl) (fill_cons rfl (s := [vi 2]) rfl rfl (spl_lit (j := 2) (cs' := [vs ([206, 177, 98] : List UInt8), .slice (some ⟨b2, 0, none⟩) ([107, 101, 121] : List UInt8).length 3, vi 2, vi 0, vi 0, vi 0, .slice none 0 0]) rfl rfl) (fill_cons rfl (s := [vi a0_budget]) rfl rfl (spl_lit (j := 3) (cs' := [vs ([206, 177, 98] : List UInt8), .slice (some ⟨b2, 0, none⟩) ([107, 101, 121] : List UInt8).length 3, vi 2, vi a0_budget, vi 0, vi 0, .slice none 0 0]) rfl rfl) (fill_cons rfl (s := [vi 2]) rfl rfl (spl_lit (j := 4) (cs' := [vs ([206, 177, 98] : List UInt8), .slice (some ⟨b2, 0, none⟩) ([107, 101, 121] : List UInt8).length 3, vi 2, vi a0_budget, vi 2, vi 0, .slice none 0 0]) rfl rfl) (fill_cons rfl (s := [vi 1022]) rfl rfl (spl_lit (j := 5) (cs' := [vs ([206, 177, 98] : List UInt8), .slice (some ⟨b2, 0, none⟩) ([107, 101, 121] : List UInt8).length 3, vi 2, vi a0_budget, vi 2, vi 1022, .slice none 0 0]) rfl rfl) (fill_cons rfl (s := [.slice (some ⟨b3, 0, none⟩) ([102, 105, 114, 115, 116, 32, 105, 109, 97, 103, 101] : List UInt8).length 11]) rfl rfl (spl_lit (j := 6) (cs' := [vs ([206, 177, 98] : List UInt8), .slice (some ⟨b2, 0, none⟩) ([107, 101, 121] : List UInt8).length 3, vi 2, vi a0_budget, vi 2, vi 1022, .slice (some ⟨b3, 0, none⟩) ([102, 105, 114, 115, 116, 32, 105, 109, 97, 103, 101] : List UInt8).length 11]) rfl rfl) fill_nil))))))))) (g0 rfl) rfl rfl ?_
  refine oc (k_st (j := 0) rfl rfl rfl rfl (vs := [vs ([206, 177, 98] : List UInt8), .slice (some ⟨b2, 0, none⟩) ([107, 101, 121] : List UInt8).length 3, vi 2, vi a0_budget, vi 2, vi 1022, .slice (some ⟨b3, 0, none⟩) ([102, 105, 114, 115, 116, 32, 105, 109, 97, 103, 101] : List UInt8).length 11]) rfl (sz rfl Tryz.sizeOf25) rfl 0 rfl (spl_all rfl) rfl (g0 rfl) rfl ?_)
  refine o_nil ?_
  refine q_then ?_
  refine s_ret ?_
  cases H
  exact q_end (rs_1 Tryz.results10 (rv_cell (j := 0) (s := [vs ([206, 177, 98] : List UInt8), .slice (some ⟨b2, 0, none⟩) ([107, 101, 121] : List UInt8).length 3, vi 2, vi a0_budget, vi 2, vi 1022, .slice (some ⟨b3, 0, none⟩) ([102, 105, 114, 115, 116, 32, 105, 109, 97, 103, 101] : List UInt8).length 11]) rfl (hG 0 rfl) Tryz.isAgg25 (sz rfl Tryz.sizeOf25) (sub_all _) rfl)) ⟨(some ⟨b2, 0, none⟩), 3, (some ⟨b3, 0, none⟩), 11, rfl, rfl, rfl⟩ [0, 1] rfl 2 rfl [] rfl 1 rfl

def law20_num (a0_e : Int) : Option Int :=
some a0_e

theorem c_law20_num (a0_e : Int) (r : Int) (H : law20_num a0_e = some r) : Fn Tryz.prog 14 [(vi a0_e)] [] [] (fun v D' G' => v = (vi r) ∧ D' = [] ∧ G' = []) := by
  unfold law20_num at H
  refine fn_of Tryz.func14 rfl Tryz.ntmps14 rfl ?_
  intro w0 D0 G0
  dsimp only [app, initEnv, Nat.zero_add, Nat.reduceAdd]
  refine s_seq ?_
  refine s_reg [0] rfl ?_
  refine o_run ft [0] rfl rfl ?_
  refine o_nil ?_
  refine q_then ?_
  refine s_seq ?_
  refine s_reg [0, 1] rfl ?_
  refine o_run ft [0, 1] rfl rfl ?_
  refine o_nil ?_
  refine q_then ?_
  refine s_ret ?_
  cases H
  exact q_end (rs_1 Tryz.results14 (rv_tmp rfl)) ⟨rfl, rfl, rfl⟩ [] rfl 0 rfl [] rfl 0 rfl

def tenant_Tenant_Meta (a0_t : TenantS) : Option MetaS :=
some a0_t.m

theorem c_tenant_Tenant_Meta (fp0 : Nat) (a0_tp : Nat) (a0_t : TenantS) (a0_tg : TenantG) (r : MetaS) (H : tenant_Tenant_Meta a0_t = some r) : Fn Tryz.prog 19 [(.pointer (some ⟨a0_tp, 0, none⟩))] [] [TenantT fp0 a0_tg a0_tp a0_t] (fun v D' G' => v = (.agg (MetaS.cells r).toArray) ∧ D' = [] ∧ G' = [TenantT fp0 a0_tg a0_tp a0_t]) := by
  unfold tenant_Tenant_Meta at H
  refine fn_of Tryz.func19 rfl Tryz.ntmps19 rfl ?_
  intro w0 D0 G0
  dsimp only [app, initEnv, Nat.zero_add, Nat.reduceAdd]
  refine s_seq ?_
  refine s_reg [0] rfl ?_
  refine oc (k_alloc rfl rfl Tryz.zeroValue52 (cs := MetaS.cells MetaS.zero) rfl (g0 rfl) rfl rfl ?_)
  intro b1
  refine o_nil ?_
  refine q_then ?_
  refine s_seq ?_
  refine s_seq ?_
  refine s_reg [0, 1] rfl ?_
  refine o_run ft [0] rfl rfl ?_
  refine o_pu rfl (ev_bin rfl rfl rfl rfl (eql_ptr_pn Tryz.runUnderlying33)) (g0 rfl) rfl rfl ?_
  refine o_nil ?_
  refine q_then ?_
  refine s_cond_f rfl ?_
  refine s_skip ?_
  refine q_then ?_
  refine s_seq ?_
  refine s_reg [0, 1, 2, 3, 4] rfl ?_
  refine o_run ft [0, 1, 2] rfl rfl ?_
  refine k_unp 1 rfl ?_
  dsimp only [app, del]
  refine o_ld (hG 0 rfl) rfl (ev_ldN (j := 11) rfl rfl Tryz.isAgg52 (sz (MetaS.len _) Tryz.sizeOf52) (sub_skip (n := 1) (sub_skip (n := 3) (sub_skip (n := 7) (sub_all _) rfl rfl) (CapS.len _) rfl) rfl rfl) rfl) (g0 rfl) rfl rfl ?_
  refine oc (k_st (j := 0) rfl rfl rfl rfl (vs := MetaS.cells a0_t.m) rfl (sz (MetaS.len _) Tryz.sizeOf52) (MetaS.sc _) 2 rfl (spl_all ((MetaS.len _).trans (MetaS.len _).symm)) rfl (g0 rfl) rfl ?_)
  refine o_nil ?_
  refine q_then ?_
  refine s_ret ?_
  refine k_pk (TenantT fp0 a0_tg a0_tp a0_t) rfl [0, 1] [0, 0] rfl rfl ?_
  cases H
  exact q_end (rs_1 Tryz.results19 (rv_cell (j := 0) rfl (hG 1 rfl) Tryz.isAgg52 (sz (MetaS.len _) Tryz.sizeOf52) (sub_all _) rfl)) ⟨rfl, rfl, rfl⟩ [] rfl 2 rfl [0] rfl 1 rfl

def update_Chunks (a0_size : Int) : Option Int :=
bif (decide (a0_size < 1)) then (
some 0) else (
some (wrap64 ((wrap64 ((wrap64 (a0_size - 1)).tdiv 320)) + 1)))

theorem c_update_Chunks (a0_size : Int) (r : Int) (H : update_Chunks a0_size = some r) : Fn Tryz.prog 37 [(vi a0_size)] [] [] (fun v D' G' => v = (vi r) ∧ D' = [] ∧ G' = []) := by
  unfold update_Chunks at H
  refine fn_of Tryz.func37 rfl Tryz.ntmps37 rfl ?_
  intro w0 D0 G0
  dsimp only [app, initEnv, Nat.zero_add, Nat.reduceAdd]
  refine s_seq ?_
  refine s_reg [0] rfl ?_
  refine o_run ft [0] rfl rfl ?_
  refine o_nil ?_
  refine q_then ?_
  refine s_seq ?_
  refine s_seq ?_
  refine s_reg [0, 1] rfl ?_
  refine o_run ft [0, 1] rfl rfl ?_
  refine o_nil ?_
  refine q_then ?_
  refine s_cond rfl ?_ ?_
  · intro hb1
    have H := cnd_t H hb1
    refine s_seq ?_
    refine s_reg [0] rfl ?_
    refine o_run ft [0] rfl rfl ?_
    refine o_nil ?_
    refine q_then ?_
    refine s_ret ?_
    refine q_then_r ?_
    cases H
    exact q_end (rs_1 Tryz.results37 (rv_tmp rfl)) ⟨rfl, rfl, rfl⟩ [] rfl 0 rfl [] rfl 0 rfl
  · intro hb1
    have H := cnd_f H hb1
    refine s_skip ?_
    refine q_then ?_
    refine s_seq ?_
    refine s_reg [0, 1, 2, 3, 4] rfl ?_
    refine o_run ft [0, 1] rfl rfl ?_
    refine o_pu rfl (ev_bin rfl rfl rfl rfl (quo_i _ 320 rfl)) (g0 rfl) rfl rfl ?_
    refine o_run ft [3, 4] rfl rfl ?_
    refine o_nil ?_
    refine q_then ?_
    refine s_ret ?_
    cases H
    exact q_end (rs_1 Tryz.results37 (rv_tmp rfl)) ⟨rfl, rfl, rfl⟩ [] rfl 0 rfl [] rfl 0 rfl

def update_Len (a0_size : Int) (a1_n : Int) : Option Int :=
bnd (decide (a1_n < 0)) fun b1 =>
jn (fun x4 =>
bif x4 then (
some 0) else (
bnd (if (wrap64 (a0_size - (wrap64 (a1_n * 320)))) < 320 then (wrap64 (a0_size - (wrap64 (a1_n * 320)))) else 320) fun x6 =>
some x6)) fun J3 =>
bif b1 then (
J3 true) else
(update_Chunks a0_size).bind fun r8 =>
J3 (decide (a1_n ≥ r8))

theorem c_update_Len (a0_size : Int) (a1_n : Int) (r : Int) (H : update_Len a0_size a1_n = some r) : Fn Tryz.prog 39 [(vi a0_size), (vi a1_n)] [] [] (fun v D' G' => v = (vi r) ∧ D' = [] ∧ G' = []) := by
  unfold update_Len at H
  refine fn_of Tryz.func39 rfl Tryz.ntmps39 rfl ?_
  intro w0 D0 G0
  dsimp only [app, initEnv, Nat.zero_add, Nat.reduceAdd]
  refine s_seq ?_
  refine s_reg [0] rfl ?_
  refine o_run ft [0] rfl rfl ?_
  refine o_nil ?_
  refine q_then ?_
  refine s_seq ?_
  refine s_seq ?_
  refine s_reg [0, 1, 2, 3, 4, 5, 6, 7] rfl ?_
  refine o_run ft [0, 1, 2] rfl rfl ?_
  refine k_name 7 rfl ?_
  intro b1 hb2
  have H := bnd_eq H hb2
  refine o_jb 12 [] [0, 1, 4, 5, 6, 7] H rfl ?_ ?_
  · intro x4 H
    refine o_nil ?_
    refine q_then ?_
    refine s_cond rfl ?_ ?_
    · intro hb5
      have H := cnd_t H hb5
      refine s_seq ?_
      refine s_reg [0] rfl ?_
      refine o_run ft [0] rfl rfl ?_
      refine o_nil ?_
      refine q_then ?_
      refine s_ret ?_
      refine q_then_r ?_
      cases H
      exact q_end (rs_1 Tryz.results39 (rv_tmp rfl)) ⟨rfl, rfl, rfl⟩ [] rfl 0 rfl [] rfl 0 rfl
    · intro hb5
      have H := cnd_f H hb5
      refine s_skip ?_
      refine q_then ?_
      refine s_seq ?_
      refine s_reg [0, 1, 2, 3, 4, 5] rfl ?_
      refine o_run ft [0, 1, 2, 3] rfl rfl ?_
      refine o_pu rfl (ev_min rfl rfl rfl) (g0 rfl) rfl rfl ?_
      obtain ⟨x6, hx7⟩ : ∃ x : Int, x = (if (wrap64 (a0_size - (wrap64 (a1_n * 320)))) < 320 then (wrap64 (a0_size - (wrap64 (a1_n * 320)))) else 320) := ⟨_, rfl⟩
      have H := bnd_eq H hx7
      refine k_eq (v' := vi x6) 17 rfl (by rw [hx7]) ?_
      refine o_run ft [5] rfl rfl ?_
      refine o_nil ?_
      refine q_then ?_
      refine s_ret ?_
      cases H
      exact q_end (rs_1 Tryz.results39 (rv_tmp rfl)) ⟨rfl, rfl, rfl⟩ [] rfl 0 rfl [] rfl 0 rfl
  · intro J3 J3h H
    cases b1 with
    | true =>
      rw [cond_true] at H
      refine o_gnot rfl rfl rfl rfl rfl rfl rfl rfl ?_
      refine o_gnot rfl rfl rfl rfl rfl rfl rfl rfl ?_
      refine o_gnot rfl rfl rfl rfl rfl rfl rfl rfl ?_
      refine o_gnot rfl rfl rfl rfl rfl rfl rfl rfl ?_
      refine o_run ft [7] rfl rfl ?_
      exact k_wk (J3h true H) [12, 0, 1, 4, 5, 6, 7] [] 0 [] 0 rfl rfl rfl
    | false =>
      rw [cond_false] at H
      refine o_run ft [3, 4] rfl rfl ?_
      obtain ⟨r8, Hc9, H⟩ := bind_some' H
      refine oc (k_call (c_update_Chunks a0_size r8 Hc9) Tryz.call37 rfl rfl rfl [] [] rfl rfl (g1 rfl rfl rfl rfl) rfl rfl ?_)
      rintro _ _ _ ⟨rfl, rfl, rfl⟩
      dsimp only [app]
      refine o_run ft [6, 7] rfl rfl ?_
      exact k_wk (J3h (decide (a1_n ≥ r8)) H) [12, 0, 1, 4, 5, 6, 7] [] 0 [] 0 rfl rfl rfl

def caps_May (a0_c : CapS) (a1_kind : Int) : Option Bool :=
bnd (decide (a1_kind ≥ 1)) fun b2 =>
jn (fun x5 =>
bnd x5 fun b6 =>
jn (fun x9 =>
some x9) fun J8 =>
bif b6 then (
chk (decide (a1_kind < 0) = false) <|
J8 ((iand (ishr a0_c.Rights a1_kind) 1) == 1)) else
J8 false) fun J4 =>
bif b2 then (
J4 (decide (a1_kind ≤ 9))) else
J4 false

theorem c_caps_May (a0_c : CapS) (a1_kind : Int) (r : Bool) (H : caps_May a0_c a1_kind = some r) : Fn Tryz.prog 48 [(.agg (CapS.cells a0_c).toArray), (vi a1_kind)] [] [] (fun v D' G' => v = (vb r) ∧ D' = [] ∧ G' = []) := by
  unfold caps_May at H
  refine fn_of Tryz.func48 rfl Tryz.ntmps48 rfl ?_
  intro w0 D0 G0
  dsimp only [app, initEnv, Nat.zero_add, Nat.reduceAdd]
  refine s_seq ?_
  refine s_reg [0, 1] rfl ?_
  refine oc (k_box rfl rfl rfl (cs := CapS.cells a0_c) rfl (g0 rfl) rfl rfl ?_)
  intro b1
  refine o_run ft [1] rfl rfl ?_
  refine o_nil ?_
  refine q_then ?_
  refine s_seq ?_
  refine s_reg [0, 1, 2, 3, 4, 5, 6, 7, 8, 9, 10, 11, 12, 13, 14] rfl ?_
  refine o_run ft [0, 1, 2] rfl rfl ?_
  refine k_name 7 rfl ?_
  intro b2 hb3
  have H := bnd_eq H hb3
  refine o_jb 10 [6, 7, 8, 9, 10, 11, 12, 13, 14] [0, 1, 2, 4, 5, 6, 7] H rfl ?_ ?_
  · intro x5 H
    refine o_run ft [6] rfl rfl ?_
    refine k_name 11 rfl ?_
    intro b6 hb7
    have H := bnd_eq H hb7
    refine o_jb 18 [14] [0, 1, 2, 4, 5, 6, 7, 10, 11] H rfl ?_ ?_
    · intro x9 H
      refine o_run ft [14] rfl rfl ?_
      refine o_nil ?_
      refine q_then ?_
      refine s_ret ?_
      cases H
      exact q_end (rs_1 Tryz.results48 (rv_tmp rfl)) ⟨rfl, rfl, rfl⟩ [] rfl 0 rfl [] rfl 1 rfl
    · intro J8 J8h H
      cases b6 with
      | true =>
        rw [cond_true] at H
        refine o_run ft [7] rfl rfl ?_
        refine o_ld (hG 0 rfl) rfl (ev_ld1 (j := 0) rfl rfl Tryz.isAgg3 (CapS.sub_Rights _) rfl) (g1 rfl rfl rfl rfl) rfl rfl ?_
        refine o_run ft [9] rfl rfl ?_
        obtain ⟨hk10, H⟩ := chk_some H
        refine o_pu rfl (ev_bin rfl rfl rfl rfl (shr_i _ _ hk10)) (g1 rfl rfl rfl rfl) rfl rfl ?_
        refine o_pu rfl (ev_bin rfl rfl rfl rfl (and_i _ 1)) (g1 rfl rfl rfl rfl) rfl rfl ?_
        refine o_run ft [12, 13] rfl rfl ?_
        exact k_wk (J8h ((iand (ishr a0_c.Rights a1_kind) 1) == 1) H) [18, 0, 1, 2, 4, 5, 6, 7, 10, 11] [] 0 [0] 0 rfl rfl rfl
      | false =>
        rw [cond_false] at H
        refine o_gnot rfl rfl rfl rfl rfl rfl rfl rfl ?_
        refine o_gnot rfl rfl rfl rfl rfl rfl rfl rfl ?_
        refine o_gnot rfl rfl rfl rfl rfl rfl rfl rfl ?_
        refine o_gnot rfl rfl rfl rfl rfl rfl rfl rfl ?_
        refine o_gnot rfl rfl rfl rfl rfl rfl rfl rfl ?_
        refine o_gnot rfl rfl rfl rfl rfl rfl rfl rfl ?_
        refine o_run ft [13] rfl rfl ?_
        exact k_wk (J8h false H) [18, 0, 1, 2, 4, 5, 6, 7, 10, 11] [] 0 [0] 0 rfl rfl rfl
  · intro J4 J4h H
    cases b2 with
    | true =>
      rw [cond_true] at H
      refine o_run ft [3, 4, 5] rfl rfl ?_
      exact k_wk (J4h (decide (a1_kind ≤ 9)) H) [10, 0, 1, 2, 4, 5, 6, 7] [] 0 [0] 0 rfl rfl rfl
    | false =>
      rw [cond_false] at H
      refine o_gnot rfl rfl rfl rfl rfl rfl rfl rfl ?_
      refine o_gnot rfl rfl rfl rfl rfl rfl rfl rfl ?_
      refine o_run ft [5] rfl rfl ?_
      exact k_wk (J4h false H) [10, 0, 1, 2, 4, 5, 6, 7] [] 0 [0] 0 rfl rfl rfl

def tenant_Tenant_area (a0_t : TenantS) : Option Unit :=
some ()

theorem c_tenant_Tenant_area (fp0 : Nat) (a0_tp : Nat) (a0_t : TenantS) (a0_tg : TenantG) (r : Unit) (H : tenant_Tenant_area a0_t = some r) : Fn Tryz.prog 56 [(.pointer (some ⟨a0_tp, 0, none⟩))] [] [TenantT fp0 a0_tg a0_tp a0_t] (fun v D' G' => v = (.pointer (some ⟨a0_tg.b0, 0, none⟩)) ∧ D' = [] ∧ G' = [TenantT fp0 a0_tg a0_tp a0_t]) := by
  unfold tenant_Tenant_area at H
  refine fn_of Tryz.func56 rfl Tryz.ntmps56 rfl ?_
  intro w0 D0 G0
  dsimp only [app, initEnv, Nat.zero_add, Nat.reduceAdd]
  refine s_seq ?_
  refine s_reg [0] rfl ?_
  refine o_run ft [0] rfl rfl ?_
  refine o_nil ?_
  refine q_then ?_
  refine s_seq ?_
  refine s_reg [0, 1, 2, 3, 4, 5, 6, 7, 8, 9] rfl ?_
  refine o_run ft [0, 1, 2] rfl rfl ?_
  refine k_unp 0 rfl ?_
  dsimp only [app, del]
  refine o_ld (hG 0 rfl) rfl (ev_ld1 (j := 0) rfl rfl Tryz.isAgg99 (sub_head (sub_nth (j := 0) rfl)) rfl) (g0 rfl) rfl rfl ?_
  refine o_pu rfl (ev_assert_ok rfl rfl Tryz.runUnderlying81) (g0 rfl) rfl rfl ?_
  refine o_run ft [5, 6, 7, 8, 9] rfl rfl ?_
  refine o_nil ?_
  refine q_then ?_
  refine s_seq ?_
  refine s_seq ?_
  refine s_reg [0, 1] rfl ?_
  refine o_run ft [0] rfl rfl ?_
  refine o_pu rfl (ev_not rfl rfl) (g0 rfl) rfl rfl ?_
  refine o_nil ?_
  refine q_then ?_
  refine s_cond_f rfl ?_
  refine s_skip ?_
  refine q_then ?_
  refine s_seq ?_
  refine s_reg [0, 1] rfl ?_
  refine o_run ft [0, 1] rfl rfl ?_
  refine o_nil ?_
  refine q_then ?_
  refine s_ret ?_
  refine k_pk (TenantT fp0 a0_tg a0_tp a0_t) rfl [0, 1] [0, 0] rfl rfl ?_
  cases H
  exact q_end (rs_1 Tryz.results56 (rv_tmp rfl)) ⟨rfl, rfl, rfl⟩ [] rfl 2 rfl [0] rfl 0 rfl

def nor_Flash_Len (a0_f : FlashS) : Option Int :=
some (a0_f.wear.length : Int)

theorem c_nor_Flash_Len (a0_fp : Nat) (a0_f : FlashS) (a0_fg : FlashG) (r : Int) (H : nor_Flash_Len a0_f = some r) : Fn Tryz.prog 79 [(.pointer (some ⟨a0_fp, 0, none⟩))] [] [FlashT a0_fg a0_fp a0_f] (fun v D' G' => v = (vi r) ∧ D' = [] ∧ G' = [FlashT a0_fg a0_fp a0_f]) := by
  unfold nor_Flash_Len at H
  refine fn_of Tryz.func79 rfl Tryz.ntmps79 rfl ?_
  intro w0 D0 G0
  dsimp only [app, initEnv, Nat.zero_add, Nat.reduceAdd]
  refine s_seq ?_
  refine s_reg [0] rfl ?_
  refine o_run ft [0] rfl rfl ?_
  refine o_nil ?_
  refine q_then ?_
  refine s_seq ?_
  refine s_seq ?_
  refine s_reg [0, 1] rfl ?_
  refine o_run ft [0] rfl rfl ?_
  refine o_pu rfl (ev_bin rfl rfl rfl rfl (eql_ptr_pn Tryz.runUnderlying29)) (g0 rfl) rfl rfl ?_
  refine o_nil ?_
  refine q_then ?_
  refine s_cond_f rfl ?_
  refine s_skip ?_
  refine q_then ?_
  refine s_seq ?_
  refine s_reg [0, 1, 2, 3, 4, 5] rfl ?_
  refine o_run ft [0, 1, 2] rfl rfl ?_
  refine k_unp 0 rfl ?_
  dsimp only [app, del]
  refine o_ld (hG 0 rfl) rfl (ev_ld1 (j := 1) rfl rfl Tryz.isAgg64 (sub_nth (j := 1) rfl) rfl) (g0 rfl) rfl rfl ?_
  refine o_pu rfl (ev_len_slice rfl rfl Tryz.runUnderlying64) (g0 rfl) rfl rfl ?_
  refine o_run ft [5] rfl rfl ?_
  refine o_nil ?_
  refine q_then ?_
  refine s_ret ?_
  refine k_pk (FlashT a0_fg a0_fp a0_f) rfl [0] [0, 0, 0] rfl rfl ?_
  cases H
  exact q_end (rs_1 Tryz.results79 (rv_tmp rfl)) ⟨rfl, rfl, rfl⟩ [] rfl 1 rfl [0] rfl 0 rfl

def area_Area_Len (a0_a : AreaS) : Option Int :=
some a0_a.len

theorem c_area_Area_Len (fp0 : Nat) (a0_ap : Nat) (a0_a : AreaS) (r : Int) (H : area_Area_Len a0_a = some r) : Fn Tryz.prog 81 [(.pointer (some ⟨a0_ap, 0, none⟩))] [] [AreaT fp0 () a0_ap a0_a] (fun v D' G' => v = (vi r) ∧ D' = [] ∧ G' = [AreaT fp0 () a0_ap a0_a]) := by
  unfold area_Area_Len at H
  refine fn_of Tryz.func81 rfl Tryz.ntmps81 rfl ?_
  intro w0 D0 G0
  dsimp only [app, initEnv, Nat.zero_add, Nat.reduceAdd]
  refine s_seq ?_
  refine s_reg [0] rfl ?_
  refine o_run ft [0] rfl rfl ?_
  refine o_nil ?_
  refine q_then ?_
  refine s_seq ?_
  refine s_seq ?_
  refine s_reg [0, 1] rfl ?_
  refine o_run ft [0] rfl rfl ?_
  refine o_pu rfl (ev_bin rfl rfl rfl rfl (eql_ptr_pn Tryz.runUnderlying81)) (g0 rfl) rfl rfl ?_
  refine o_nil ?_
  refine q_then ?_
  refine s_cond_f rfl ?_
  refine s_skip ?_
  refine q_then ?_
  refine s_seq ?_
  refine s_reg [0, 1, 2, 3, 4] rfl ?_
  refine o_run ft [0, 1, 2] rfl rfl ?_
  refine k_unp 0 rfl ?_
  dsimp only [app, del]
  refine o_ld (hG 0 rfl) rfl (ev_ld1 (j := 2) rfl rfl Tryz.isAgg3 (sub_nth (j := 2) rfl) rfl) (g0 rfl) rfl rfl ?_
  refine o_run ft [4] rfl rfl ?_
  refine o_nil ?_
  refine q_then ?_
  refine s_ret ?_
  refine k_pk (AreaT fp0 () a0_ap a0_a) rfl [] [0] rfl rfl ?_
  cases H
  exact q_end (rs_1 Tryz.results81 (rv_tmp rfl)) ⟨rfl, rfl, rfl⟩ [] rfl 0 rfl [0] rfl 0 rfl

def turn_Bytes (a0_x : UInt32) : Option (List UInt8) :=
some ([(shr32 (a0_x : UInt32) (24 : UInt64).toNat).toUInt8, (shr32 (a0_x : UInt32) (16 : UInt64).toNat).toUInt8, (shr32 (a0_x : UInt32) (8 : UInt64).toNat).toUInt8, a0_x.toUInt8] : List UInt8)

theorem c_turn_Bytes (a0_x : UInt32) (r : (List UInt8)) (H : turn_Bytes a0_x = some r) : Fn Tryz.prog 84 [(v32 a0_x)] [] [] (fun v D' G' => ∃ (A2 : Option Addr) (c3 : Nat), v = (.slice A2 r.length c3) ∧ D' = [Sl E8 A2 c3 r] ∧ G' = [Spare A2 r.length c3 1]) := by
  unfold turn_Bytes at H
  refine fn_of Tryz.func84 rfl Tryz.ntmps84 rfl ?_
  intro w0 D0 G0
  dsimp only [app, initEnv, Nat.zero_add, Nat.reduceAdd]
  refine s_seq ?_
  refine s_reg [0] rfl ?_
  refine o_run ft [0] rfl rfl ?_
  refine o_nil ?_
  refine q_then ?_
  refine s_seq ?_
  refine s_reg [0, 1, 2, 3, 4, 5, 6, 7, 8, 9, 10, 11, 12] rfl ?_
  refine o_run ft [0] rfl rfl ?_
  refine o_pu rfl (ev_bin rfl rfl rfl rfl (shr_32 _ 24)) (g0 rfl) rfl rfl ?_
  refine o_pu rfl (ev_conv rfl rfl (conv_u32_u8 _ Tryz.runUnderlying141 Tryz.runUnderlying5)) (g0 rfl) rfl rfl ?_
  refine o_run ft [3] rfl rfl ?_
  refine o_pu rfl (ev_bin rfl rfl rfl rfl (shr_32 _ 16)) (g0 rfl) rfl rfl ?_
  refine o_pu rfl (ev_conv rfl rfl (conv_u32_u8 _ Tryz.runUnderlying141 Tryz.runUnderlying5)) (g0 rfl) rfl rfl ?_
  refine o_run ft [6] rfl rfl ?_
  refine o_pu rfl (ev_bin rfl rfl rfl rfl (shr_32 _ 8)) (g0 rfl) rfl rfl ?_
  refine o_pu rfl (ev_conv rfl rfl (conv_u32_u8 _ Tryz.runUnderlying141 Tryz.runUnderlying5)) (g0 rfl) rfl rfl ?_
  refine o_run ft [9] rfl rfl ?_
  refine o_pu rfl (ev_conv rfl rfl (conv_u32_u8 _ Tryz.runUnderlying141 Tryz.runUnderlying5)) (g0 rfl) rfl rfl ?_
  refine oc (k_buildSlice (f := E8) ([(shr32 (a0_x : UInt32) (24 : UInt64).toNat).toUInt8, (shr32 (a0_x : UInt32) (16 : UInt64).toNat).toUInt8, (shr32 (a0_x : UInt32) (8 : UInt64).toNat).toUInt8, a0_x.toUInt8] : List UInt8) rfl rfl rfl rfl Tryz.runUnderlying22 Tryz.sizeOf5 Tryz.zeroValue5 rfl rfl (fill_all rfl rfl (by simp) rfl rfl) (g0 rfl) rfl rfl ?_)
  intro b1
  refine o_run ft [12] rfl rfl ?_
  refine o_nil ?_
  refine q_then ?_
  refine s_ret ?_
  cases H
  refine k_spare_full (some ⟨b1, 0, none⟩) ([(shr32 (a0_x : UInt32) (24 : UInt64).toNat).toUInt8, (shr32 (a0_x : UInt32) (16 : UInt64).toNat).toUInt8, (shr32 (a0_x : UInt32) (8 : UInt64).toNat).toUInt8, a0_x.toUInt8] : List UInt8).length 4 1 rfl ?_
  exact q_end (rs_1 Tryz.results84 (rv_tmp rfl)) ⟨(some ⟨b1, 0, none⟩), 4, rfl, rfl, rfl⟩ [0] rfl 1 rfl [0] rfl 0 rfl

def caps_Need (a0_c : Config) : Option Int :=
bnd (if 0 < (if 6 < a0_c.Slot then 6 else a0_c.Slot) then (if 6 < a0_c.Slot then 6 else a0_c.Slot) else 0) fun x6 =>
some (wrap64 (4 + (wrap64 (2 * x6))))

theorem c_caps_Need (a0_c : Config) (A1 : Option Addr) (c2 : Nat) (A3 : Option Addr) (c4 : Nat) (r : Int) (H : caps_Need a0_c = some r) : Fn Tryz.prog 92 [(.agg ([vs a0_c.Name, .slice A1 a0_c.Key.length c2, vi a0_c.Slot, vi a0_c.Budget, vi a0_c.Quota, vi a0_c.Rights, .slice A3 a0_c.First.length c4]).toArray)] [Sl E8 A3 c4 a0_c.First, Sl E8 A1 c2 a0_c.Key] [] (fun v D' G' => v = (vi r) ∧ D' = [] ∧ G' = []) := by
  unfold caps_Need at H
  refine fn_of Tryz.func92 rfl Tryz.ntmps92 rfl ?_
  intro w0 D0 G0
  dsimp only [app, initEnv, Nat.zero_add, Nat.reduceAdd]
  refine s_seq ?_
  refine s_reg [0, 1] rfl ?_
  refine oc (k_box rfl rfl rfl (cs := [vs a0_c.Name, .slice A1 a0_c.Key.length c2, vi a0_c.Slot, vi a0_c.Budget, vi a0_c.Quota, vi a0_c.Rights, .slice A3 a0_c.First.length c4]) rfl (g0 rfl) rfl rfl ?_)
  intro b5
  refine o_run ft [1] rfl rfl ?_
  refine o_nil ?_
  refine q_then ?_
  refine s_seq ?_
  refine s_reg [0, 1, 2, 3, 4, 5, 6] rfl ?_
  refine o_run ft [0] rfl rfl ?_
  refine o_ld (hG 0 rfl) rfl (ev_ld1 (j := 2) rfl rfl Tryz.isAgg3 (sub_nth (j := 2) rfl) rfl) (g0 rfl) rfl rfl ?_
  refine o_pu rfl (ev_min rfl rfl rfl) (g0 rfl) rfl rfl ?_
  refine o_pu rfl (ev_max rfl rfl rfl) (g0 rfl) rfl rfl ?_
  obtain ⟨x6, hx7⟩ : ∃ x : Int, x = (if 0 < (if 6 < a0_c.Slot then 6 else a0_c.Slot) then (if 6 < a0_c.Slot then 6 else a0_c.Slot) else 0) := ⟨_, rfl⟩
  have H := bnd_eq H hx7
  refine k_eq (v' := vi x6) 6 rfl (by rw [hx7]) ?_
  refine o_run ft [4, 5, 6] rfl rfl ?_
  refine o_nil ?_
  refine q_then ?_
  refine s_ret ?_
  cases H
  exact q_end (rs_1 Tryz.results92 (rv_tmp rfl)) ⟨rfl, rfl, rfl⟩ [] rfl 2 rfl [] rfl 1 rfl

def slot_From (a0_slot : Int) (a1_k : Int) (a2_sectors : Int) : Option Int :=
bnd (decide (a0_slot < 0)) fun b1 =>
jn (fun x4 =>
bnd x4 fun b5 =>
jn (fun x8 =>
bnd x8 fun b9 =>
jn (fun x12 =>
bnd x12 fun b13 =>
jn (fun x16 =>
bnd x16 fun b17 =>
jn (fun x20 =>
bif x20 then (
some (-1)) else (
bnd (wrap64 ((wrap64 (4 + (wrap64 (a0_slot * a2_sectors)))) + a1_k)) fun x22 =>
some x22)) fun J19 =>
bif b17 then (
J19 true) else
J19 (decide (a1_k ≥ a2_sectors))) fun J15 =>
bif b13 then (
J15 true) else
J15 (decide (a1_k < 0))) fun J11 =>
bif b9 then (
J11 true) else
J11 (decide (a2_sectors > 6))) fun J7 =>
bif b5 then (
J7 true) else
J7 (decide (a2_sectors < 1))) fun J3 =>
bif b1 then (
J3 true) else
J3 (decide (a0_slot > 1))

theorem c_slot_From (a0_slot : Int) (a1_k : Int) (a2_sectors : Int) (r : Int) (H : slot_From a0_slot a1_k a2_sectors = some r) : Fn Tryz.prog 93 [(vi a0_slot), (vi a1_k), (vi a2_sectors)] [] [] (fun v D' G' => v = (vi r) ∧ D' = [] ∧ G' = []) := by
  unfold slot_From at H
  refine fn_of Tryz.func93 rfl Tryz.ntmps93 rfl ?_
  intro w0 D0 G0
  dsimp only [app, initEnv, Nat.zero_add, Nat.reduceAdd]
  refine s_seq ?_
  refine s_reg [0] rfl ?_
  refine o_run ft [0] rfl rfl ?_
  refine o_nil ?_
  refine q_then ?_
  refine s_seq ?_
  refine s_seq ?_
  refine s_reg [0, 1, 2, 3, 4, 5, 6, 7, 8, 9, 10, 11, 12, 13, 14, 15, 16, 17, 18, 19, 20, 21, 22] rfl ?_
  refine o_run ft [0, 1, 2] rfl rfl ?_
  refine k_name 9 rfl ?_
  intro b1 hb2
  have H := bnd_eq H hb2
  refine o_jb 12 [6, 7, 8, 9, 10, 11, 12, 13, 14, 15, 16, 17, 18, 19, 20, 21, 22] [0, 1, 2, 6, 7, 8, 9] H rfl ?_ ?_
  · intro x4 H
    refine o_run ft [6] rfl rfl ?_
    refine k_name 13 rfl ?_
    intro b5 hb6
    have H := bnd_eq H hb6
    refine o_jb 16 [10, 11, 12, 13, 14, 15, 16, 17, 18, 19, 20, 21, 22] [0, 1, 2, 6, 7, 8, 9, 12, 13] H rfl ?_ ?_
    · intro x8 H
      refine o_run ft [10] rfl rfl ?_
      refine k_name 17 rfl ?_
      intro b9 hb10
      have H := bnd_eq H hb10
      refine o_jb 20 [14, 15, 16, 17, 18, 19, 20, 21, 22] [0, 1, 2, 6, 7, 8, 9, 12, 13, 16, 17] H rfl ?_ ?_
      · intro x12 H
        refine o_run ft [14] rfl rfl ?_
        refine k_name 21 rfl ?_
        intro b13 hb14
        have H := bnd_eq H hb14
        refine o_jb 24 [18, 19, 20, 21, 22] [0, 1, 2, 6, 7, 8, 9, 12, 13, 16, 17, 20, 21] H rfl ?_ ?_
        · intro x16 H
          refine o_run ft [18] rfl rfl ?_
          refine k_name 25 rfl ?_
          intro b17 hb18
          have H := bnd_eq H hb18
          refine o_jb 29 [] [0, 1, 2, 6, 7, 8, 9, 12, 13, 16, 17, 20, 21, 24, 25] H rfl ?_ ?_
          · intro x20 H
            refine o_nil ?_
            refine q_then ?_
            refine s_cond rfl ?_ ?_
            · intro hb21
              have H := cnd_t H hb21
              refine s_seq ?_
              refine s_reg [0] rfl ?_
              refine o_run ft [0] rfl rfl ?_
              refine o_nil ?_
              refine q_then ?_
              refine s_ret ?_
              refine q_then_r ?_
              cases H
              exact q_end (rs_1 Tryz.results93 (rv_tmp rfl)) ⟨rfl, rfl, rfl⟩ [] rfl 0 rfl [] rfl 0 rfl
            · intro hb21
              have H := cnd_f H hb21
              refine s_skip ?_
              refine q_then ?_
              refine s_seq ?_
              refine s_reg [0, 1, 2, 3, 4, 5, 6] rfl ?_
              refine o_run ft [0, 1, 2, 3, 4, 5, 6] rfl rfl ?_
              obtain ⟨x22, hx23⟩ : ∃ x : Int, x = (wrap64 ((wrap64 (4 + (wrap64 (a0_slot * a2_sectors)))) + a1_k)) := ⟨_, rfl⟩
              have H := bnd_eq H hx23
              refine k_eq (v' := vi x22) 6 rfl (by rw [hx23]) ?_
              refine o_nil ?_
              refine q_then ?_
              refine s_ret ?_
              cases H
              exact q_end (rs_1 Tryz.results93 (rv_tmp rfl)) ⟨rfl, rfl, rfl⟩ [] rfl 0 rfl [] rfl 0 rfl
          · intro J19 J19h H
            cases b17 with
            | true =>
              rw [cond_true] at H
              refine o_gnot rfl rfl rfl rfl rfl rfl rfl rfl ?_
              refine o_gnot rfl rfl rfl rfl rfl rfl rfl rfl ?_
              refine o_gnot rfl rfl rfl rfl rfl rfl rfl rfl ?_
              refine o_run ft [22] rfl rfl ?_
              exact k_wk (J19h true H) [29, 0, 1, 2, 6, 7, 8, 9, 12, 13, 16, 17, 20, 21, 24, 25] [] 0 [] 0 rfl rfl rfl
            | false =>
              rw [cond_false] at H
              refine o_run ft [19, 20, 21, 22] rfl rfl ?_
              exact k_wk (J19h (decide (a1_k ≥ a2_sectors)) H) [29, 0, 1, 2, 6, 7, 8, 9, 12, 13, 16, 17, 20, 21, 24, 25] [] 0 [] 0 rfl rfl rfl
        · intro J15 J15h H
          cases b13 with
          | true =>
            rw [cond_true] at H
            refine o_gnot rfl rfl rfl rfl rfl rfl rfl rfl ?_
            refine o_gnot rfl rfl rfl rfl rfl rfl rfl rfl ?_
            refine o_run ft [17] rfl rfl ?_
            exact k_wk (J15h true H) [24, 0, 1, 2, 6, 7, 8, 9, 12, 13, 16, 17, 20, 21] [] 0 [] 0 rfl rfl rfl
          | false =>
            rw [cond_false] at H
            refine o_run ft [15, 16, 17] rfl rfl ?_
            exact k_wk (J15h (decide (a1_k < 0)) H) [24, 0, 1, 2, 6, 7, 8, 9, 12, 13, 16, 17, 20, 21] [] 0 [] 0 rfl rfl rfl
      · intro J11 J11h H
        cases b9 with
        | true =>
          rw [cond_true] at H
          refine o_gnot rfl rfl rfl rfl rfl rfl rfl rfl ?_
          refine o_gnot rfl rfl rfl rfl rfl rfl rfl rfl ?_
          refine o_run ft [13] rfl rfl ?_
          exact k_wk (J11h true H) [20, 0, 1, 2, 6, 7, 8, 9, 12, 13, 16, 17] [] 0 [] 0 rfl rfl rfl
        | false =>
          rw [cond_false] at H
          refine o_run ft [11, 12, 13] rfl rfl ?_
          exact k_wk (J11h (decide (a2_sectors > 6)) H) [20, 0, 1, 2, 6, 7, 8, 9, 12, 13, 16, 17] [] 0 [] 0 rfl rfl rfl
    · intro J7 J7h H
      cases b5 with
      | true =>
        rw [cond_true] at H
        refine o_gnot rfl rfl rfl rfl rfl rfl rfl rfl ?_
        refine o_gnot rfl rfl rfl rfl rfl rfl rfl rfl ?_
        refine o_run ft [9] rfl rfl ?_
        exact k_wk (J7h true H) [16, 0, 1, 2, 6, 7, 8, 9, 12, 13] [] 0 [] 0 rfl rfl rfl
      | false =>
        rw [cond_false] at H
        refine o_run ft [7, 8, 9] rfl rfl ?_
        exact k_wk (J7h (decide (a2_sectors < 1)) H) [16, 0, 1, 2, 6, 7, 8, 9, 12, 13] [] 0 [] 0 rfl rfl rfl
  · intro J3 J3h H
    cases b1 with
    | true =>
      rw [cond_true] at H
      refine o_gnot rfl rfl rfl rfl rfl rfl rfl rfl ?_
      refine o_gnot rfl rfl rfl rfl rfl rfl rfl rfl ?_
      refine o_run ft [5] rfl rfl ?_
      exact k_wk (J3h true H) [12, 0, 1, 2, 6, 7, 8, 9] [] 0 [] 0 rfl rfl rfl
    | false =>
      rw [cond_false] at H
      refine o_run ft [3, 4, 5] rfl rfl ?_
      exact k_wk (J3h (decide (a0_slot > 1)) H) [12, 0, 1, 2, 6, 7, 8, 9] [] 0 [] 0 rfl rfl rfl

def ring_is (a0_a : AreaS) : Option Bool :=
(area_Area_Len a0_a).bind fun r1 =>
some (decide (r1 ≥ 4))

theorem c_ring_is (fp0 : Nat) (a0_ap : Nat) (a0_a : AreaS) (r : Bool) (H : ring_is a0_a = some r) : Fn Tryz.prog 99 [(.pointer (some ⟨a0_ap, 0, none⟩))] [] [AreaT fp0 () a0_ap a0_a] (fun v D' G' => v = (vb r) ∧ D' = [] ∧ G' = [AreaT fp0 () a0_ap a0_a]) := by
  unfold ring_is at H
  refine fn_of Tryz.func99 rfl Tryz.ntmps99 rfl ?_
  intro w0 D0 G0
  dsimp only [app, initEnv, Nat.zero_add, Nat.reduceAdd]
  refine s_seq ?_
  refine s_reg [0] rfl ?_
  refine o_run ft [0] rfl rfl ?_
  refine o_nil ?_
  refine q_then ?_
  refine s_seq ?_
  refine s_reg [0, 1, 2, 3] rfl ?_
  refine o_run ft [0] rfl rfl ?_
  obtain ⟨r1, Hc2, H⟩ := bind_some' H
  refine oc (k_call (c_area_Area_Len fp0 a0_ap a0_a r1 Hc2) Tryz.call81 rfl rfl rfl [] [0] rfl rfl (g0 rfl) rfl rfl ?_)
  rintro _ _ _ ⟨rfl, rfl, rfl⟩
  dsimp only [app]
  refine o_run ft [2, 3] rfl rfl ?_
  refine o_nil ?_
  refine q_then ?_
  refine s_ret ?_
  cases H
  exact q_end (rs_1 Tryz.results99 (rv_tmp rfl)) ⟨rfl, rfl, rfl⟩ [] rfl 0 rfl [0] rfl 0 rfl

def field_Writer_Num_l0 (a1_n : Int) (J5 : (List UInt8) → Option WriterS) : Nat → (Int × List UInt8) → Option WriterS
  | 0, _ => none
  | k8 + 1, s8 =>
    bif (decide (s8.1 ≥ 0)) then (
    chk (decide ((wrap64 (8 * s8.1)) < 0) = false) <|
    chk (s8.2.length + ([(shr64 ((UInt64.ofInt a1_n) : UInt64) ((wrap64 (8 * s8.1)) : Int).toNat).toUInt8] : List UInt8).length ≤ 68719476736) <|
    field_Writer_Num_l0 a1_n J5 k8 ((wrap64 (s8.1 - 1)), (s8.2 ++ ([(shr64 ((UInt64.ofInt a1_n) : UInt64) ((wrap64 (8 * s8.1)) : Int).toNat).toUInt8] : List UInt8)))) else (
    J5 s8.2)

def field_Writer_Num (a0_w : WriterS) (a1_n : Int) (a2_size : Int) : Option WriterS :=
bnd (if 0 < (if 8 < a2_size then 8 else a2_size) then (if 8 < a2_size then 8 else a2_size) else 0) fun x3 =>
jn (fun (x6 : List UInt8) =>
some (⟨x6⟩ : WriterS)) fun J5 =>
field_Writer_Num_l0 a1_n J5 Fuel ((wrap64 (x3 - 1)), a0_w.b)

theorem c_field_Writer_Num (a0_wp : Nat) (a0_w : WriterS) (A1 : Option Addr) (c2 : Nat) (a1_n : Int) (a2_size : Int) (r : WriterS) (H : field_Writer_Num a0_w a1_n a2_size = some r) : Fn Tryz.prog 104 [(.pointer (some ⟨a0_wp, 0, none⟩)), (vi a1_n), (vi a2_size)] [Sl E8 A1 c2 a0_w.b] [At a0_wp 0 [.slice A1 a0_w.b.length c2], Spare A1 a0_w.b.length c2 1] (fun v D' G' => ∃ (A15 : Option Addr) (c16 : Nat), v = (.tuple #[]) ∧ D' = [Sl E8 A15 c16 r.b] ∧ G' = [At a0_wp 0 [.slice A15 r.b.length c16], Spare A15 r.b.length c16 1]) := by
  unfold field_Writer_Num at H
  refine fn_of Tryz.func104 rfl Tryz.ntmps104 rfl ?_
  intro w0 D0 G0
  dsimp only [app, initEnv, Nat.zero_add, Nat.reduceAdd]
  refine s_seq ?_
  refine s_reg [0, 1, 2, 3] rfl ?_
  refine o_run ft [0] rfl rfl ?_
  refine o_pu rfl (ev_min rfl rfl rfl) (g0 rfl) rfl rfl ?_
  refine o_pu rfl (ev_max rfl rfl rfl) (g0 rfl) rfl rfl ?_
  obtain ⟨x3, hx4⟩ : ∃ x : Int, x = (if 0 < (if 8 < a2_size then 8 else a2_size) then (if 8 < a2_size then 8 else a2_size) else 0) := ⟨_, rfl⟩
  have H := bnd_eq H hx4
  refine k_eq (v' := vi x3) 9 rfl (by rw [hx4]) ?_
  refine o_run ft [3] rfl rfl ?_
  refine o_nil ?_
  refine q_then ?_
  refine s_seq ?_
  refine s_reg [0, 1, 2] rfl ?_
  refine o_run ft [0, 1, 2] rfl rfl ?_
  refine o_nil ?_
  refine q_then ?_
  refine q_join (fun (x6 : List UInt8) (y7 : Option Addr × Nat) => ⟨Sl E8 y7.1 y7.2 x6 :: Sl E8 A1 c2 a0_w.b :: D0, At a0_wp 0 [.slice y7.1 x6.length y7.2] :: Spare y7.1 x6.length y7.2 1 :: G0, []⟩) H ?_ ?_
  · intro x6 y7 H
    dsimp only
    cases H
    exact q_end_n (rs_0 Tryz.results104) ⟨y7.1, y7.2, rfl, rfl, rfl⟩ [0] rfl 2 rfl [0, 0] rfl 0 rfl
  · intro J5 J5h H
    refine s_block ?_
    refine s_loop (k_wk (loop_ind (fun (s8 : Int × List UInt8) (y8 : Option Addr × Nat) => ⟨Sl E8 y8.1 y8.2 s8.2 :: Sl E8 A1 c2 a0_w.b :: D0, At a0_wp 0 [.slice y8.1 s8.2.length y8.2] :: Spare y8.1 s8.2.length y8.2 1 :: G0, [(0, (.pointer (some ⟨a0_wp, 0, none⟩))), (1, (vi a1_n)), (6, (vi s8.1))]⟩) (field_Writer_Num_l0 a1_n J5) _ (fun _ => rfl) ?_ Fuel ((wrap64 (x3 - 1)), a0_w.b) (A1, c2) H) [0, 1, 6] [0, 0] 1 [0, 0] 0 rfl rfl rfl)
    intro k8 s8 y8 ih H
    dsimp only
    rw [field_Writer_Num_l0] at H
    refine s_seq ?_
    refine s_seq ?_
    refine s_reg [0, 1] rfl ?_
    refine o_run ft [0, 1] rfl rfl ?_
    refine o_nil ?_
    refine q_then ?_
    refine s_cond rfl ?_ ?_
    · intro hb9
      have H := cnd_t H hb9
      refine s_skip ?_
      refine q_then ?_
      refine s_seq ?_
      refine s_block ?_
      refine s_draw mixed [(4, [12, 15], Has a0_wp 0 [.slice y8.1 s8.2.length y8.2])] ?_
      refine a_run ft [0, 1, 2, 3] rfl (fun _ _ _ _ _ h => h) (by kernel_rfl) rfl ?_
      refine a_l1 4 0 rfl (by kernel_rfl) rfl (ev_ld1 (j := 0) rfl rfl Tryz.isAgg22 (sub_nth (j := 0) rfl) rfl) (fun _ _ _ h => h) (g0 rfl) rfl rfl ?_
      refine a_run ft [5] rfl (fun _ _ _ _ _ h => h) (by kernel_rfl) rfl ?_
      refine a_p1 6 (by kernel_rfl) rfl (ev_conv rfl rfl (conv_i_u64 _ Tryz.runUnderlying3 Tryz.runUnderlying178)) (fun _ _ _ h => h) (g0 rfl) rfl rfl ?_
      refine a_run ft [7, 8] rfl (fun _ _ _ _ _ h => h) (by kernel_rfl) rfl ?_
      obtain ⟨hk10, H⟩ := chk_some H
      refine a_p1 9 (by kernel_rfl) rfl (ev_bin rfl rfl rfl rfl (shr_64i _ _ hk10)) (fun _ _ _ h => h) (g0 rfl) rfl rfl ?_
      refine a_p1 10 (by kernel_rfl) rfl (ev_conv rfl rfl (conv_u64_u8 _ Tryz.runUnderlying178 Tryz.runUnderlying5)) (fun _ _ _ h => h) (g0 rfl) rfl rfl ?_
      refine ac 11 (by kernel_rfl) (sl_cons (hG 0 rfl) sl_nil) ?_
      refine k_buildSlice (f := E8) ([(shr64 ((UInt64.ofInt a1_n) : UInt64) ((wrap64 (8 * s8.1)) : Int).toNat).toUInt8] : List UInt8) rfl rfl rfl rfl Tryz.runUnderlying22 Tryz.sizeOf5 Tryz.zeroValue5 rfl rfl (fill_all rfl rfl (by simp) rfl rfl) (g0 rfl) rfl rfl ?_
      intro b11
      refine ac 12 (by kernel_rfl) (sl_cons (hG 0 rfl) sl_nil) ?_
      obtain ⟨hk14, H⟩ := chk_some H
      refine k_append 1 0 1 rfl rfl rfl rfl rfl rfl rfl E8_len E8_one Tryz.underlying22 Tryz.underlying22 info5 rfl rfl rfl rfl hk14 (g0 rfl) rfl rfl ?_
      intro A12 c13
      refine a_run ft [13, 14] rfl (fun _ _ _ _ _ h => h) (by kernel_rfl) rfl ?_
      refine ac 15 (by kernel_rfl) (sl_end (by kernel_rfl) sl_nil) ?_
      refine k_st (j := 0) rfl rfl rfl rfl (vs := [.slice A12 (s8.2 ++ ([(shr64 ((UInt64.ofInt a1_n) : UInt64) ((wrap64 (8 * s8.1)) : Int).toNat).toUInt8] : List UInt8)).length c13]) rfl (sz rfl Tryz.sizeOf22) rfl 0 rfl (spl_lit (j := 0) (cs' := [.slice A12 (s8.2 ++ ([(shr64 ((UInt64.ofInt a1_n) : UInt64) ((wrap64 (8 * s8.1)) : Int).toNat).toUInt8] : List UInt8)).length c13]) rfl rfl) rfl (g0 rfl) rfl ?_
      refine a_done (by kernel_rfl) (sl_end (by kernel_rfl) sl_nil) ?_
      refine q_block ?_
      refine q_then ?_
      refine s_reg [0, 1, 2] rfl ?_
      refine o_run ft [0, 1, 2] rfl rfl ?_
      refine o_nil ?_
      refine q_loop ?_
      exact k_wk (ih ((wrap64 (s8.1 - 1)), (s8.2 ++ ([(shr64 ((UInt64.ofInt a1_n) : UInt64) ((wrap64 (8 * s8.1)) : Int).toNat).toUInt8] : List UInt8))) (A12, c13) H) [0, 1, 6] [0, 3] 4 [0, 0] 0 rfl rfl rfl
    · intro hb9
      have H := cnd_f H hb9
      refine s_exit ?_
      refine q_then_x ?_
      refine q_then_x ?_
      refine q_block_x ?_
      exact k_wk (J5h s8.2 (y8.1, y8.2) H) [] [0, 1] 2 [0, 0] 0 rfl rfl rfl

def field_Writer_Bytes (a0_w : WriterS) : Option (List UInt8) :=
(slices_Clone a0_w.b).bind fun r3 =>
some r3

theorem c_field_Writer_Bytes (a0_wp : Nat) (a0_w : WriterS) (A1 : Option Addr) (c2 : Nat) (r : (List UInt8)) (H : field_Writer_Bytes a0_w = some r) : Fn Tryz.prog 106 [(.pointer (some ⟨a0_wp, 0, none⟩))] [Sl E8 A1 c2 a0_w.b] [At a0_wp 0 [.slice A1 a0_w.b.length c2], Spare A1 a0_w.b.length c2 1] (fun v D' G' => ∃ (A7 : Option Addr) (c8 : Nat), v = (.slice A7 r.length c8) ∧ D' = [Sl E8 A7 c8 r] ∧ G' = [Spare A7 r.length c8 1, At a0_wp 0 [.slice A1 a0_w.b.length c2], Spare A1 a0_w.b.length c2 1]) := by
  unfold field_Writer_Bytes at H
  refine fn_of Tryz.func106 rfl Tryz.ntmps106 rfl ?_
  intro w0 D0 G0
  dsimp only [app, initEnv, Nat.zero_add, Nat.reduceAdd]
  refine s_seq ?_
  refine s_reg [0] rfl ?_
  refine o_run ft [0] rfl rfl ?_
  refine o_nil ?_
  refine q_then ?_
  refine s_seq ?_
  refine s_reg [0, 1, 2, 3, 4, 5] rfl ?_
  refine o_run ft [0, 1, 2] rfl rfl ?_
  refine o_ld (hG 0 rfl) rfl (ev_ld1 (j := 0) rfl rfl Tryz.isAgg22 (sub_nth (j := 0) rfl) rfl) (g0 rfl) rfl rfl ?_
  obtain ⟨r3, Hc4, H⟩ := bind_some' H
  refine oc (k_call (c_slices_Clone a0_w.b A1 c2 r3 Hc4) Tryz.call57 rfl rfl rfl [0] [] rfl rfl (g0 rfl) rfl rfl ?_)
  rintro _ _ _ ⟨A5, c6, rfl, rfl, rfl⟩
  dsimp only [app]
  refine o_run ft [5] rfl rfl ?_
  refine o_nil ?_
  refine q_then ?_
  refine s_ret ?_
  cases H
  exact q_end (rs_1 Tryz.results106 (rv_tmp rfl)) ⟨A5, c6, rfl, rfl, rfl⟩ [0] rfl 2 rfl [0, 0, 0] rfl 0 rfl

def field_NewReader (a0_b : List UInt8) : Option ReaderS :=
(slices_Clone a0_b).bind fun r3 =>
some (⟨r3, false⟩ : ReaderS)

theorem c_field_NewReader (a0_b : List UInt8) (A1 : Option Addr) (c2 : Nat) (r : ReaderS) (H : field_NewReader a0_b = some r) : Fn Tryz.prog 107 [(.slice A1 a0_b.length c2)] [Sl E8 A1 c2 a0_b] [] (fun v D' G' => ∃ (b8 : Nat) (A9 : Option Addr) (c10 : Nat), v = (.pointer (some ⟨b8, 0, none⟩)) ∧ D' = [Sl E8 A9 c10 r.b] ∧ G' = [At b8 0 [.slice A9 r.b.length c10, vb r.bad]]) := by
  unfold field_NewReader at H
  refine fn_of Tryz.func107 rfl Tryz.ntmps107 rfl ?_
  intro w0 D0 G0
  dsimp only [app, initEnv, Nat.zero_add, Nat.reduceAdd]
  refine s_seq ?_
  refine s_reg [0] rfl ?_
  refine o_run ft [0] rfl rfl ?_
  refine o_nil ?_
  refine q_then ?_
  refine s_seq ?_
  refine s_reg [0, 1, 2, 3, 4] rfl ?_
  refine o_run ft [0] rfl rfl ?_
  obtain ⟨r3, Hc4, H⟩ := bind_some' H
  refine oc (k_call (c_slices_Clone a0_b A1 c2 r3 Hc4) Tryz.call57 rfl rfl rfl [0] [] rfl rfl (g0 rfl) rfl rfl ?_)
  rintro _ _ _ ⟨A5, c6, rfl, rfl, rfl⟩
  dsimp only [app]
  refine o_pu rfl (ev_build (cs := [.slice A5 r3.length c6, vb false]) rfl rfl Tryz.zeroValue215 Tryz.runUnderlying215 pl215 (show Instr.fill _ ([.slice none 0 0, vb false] : List Value).toArray _ = some _ from (fill_cons rfl (s := [.slice A5 r3.length c6]) rfl rfl (spl_lit (j := 0) (cs' := [.slice A5 r3.length c6, vb false]) rfl rfl) fill_nil))) (g0 rfl) rfl rfl ?_
  refine oc (k_box rfl rfl rfl (cs := [.slice A5 r3.length c6, vb false]) rfl (g0 rfl) rfl rfl ?_)
  intro b7
  refine o_run ft [4] rfl rfl ?_
  refine o_nil ?_
  refine q_then ?_
  refine s_ret ?_
  cases H
  exact q_end (rs_1 Tryz.results107 (rv_tmp rfl)) ⟨b7, A5, c6, rfl, rfl, rfl⟩ [0] rfl 2 rfl [0] rfl 1 rfl

def field_Reader_Bad (a0_r : ReaderS) : Option Bool :=
some a0_r.bad

theorem c_field_Reader_Bad (a0_rp : Nat) (a0_r : ReaderS) (A1 : Option Addr) (c2 : Nat) (r : Bool) (H : field_Reader_Bad a0_r = some r) : Fn Tryz.prog 110 [(.pointer (some ⟨a0_rp, 0, none⟩))] [Sl E8 A1 c2 a0_r.b] [At a0_rp 0 [.slice A1 a0_r.b.length c2, vb a0_r.bad]] (fun v D' G' => v = (vb r) ∧ D' = [] ∧ G' = [At a0_rp 0 [.slice A1 a0_r.b.length c2, vb a0_r.bad]]) := by
  unfold field_Reader_Bad at H
  refine fn_of Tryz.func110 rfl Tryz.ntmps110 rfl ?_
  intro w0 D0 G0
  dsimp only [app, initEnv, Nat.zero_add, Nat.reduceAdd]
  refine s_seq ?_
  refine s_reg [0] rfl ?_
  refine o_run ft [0] rfl rfl ?_
  refine o_nil ?_
  refine q_then ?_
  refine s_seq ?_
  refine s_reg [0, 1, 2, 3, 4, 5, 6, 7, 8] rfl ?_
  refine o_run ft [0] rfl rfl ?_
  refine o_pu rfl (ev_bin rfl rfl rfl rfl (neq_ptr_pn Tryz.runUnderlying163)) (g0 rfl) rfl rfl ?_
  refine o_run ft [2, 3, 4, 5] rfl rfl ?_
  refine o_ld (hG 0 rfl) rfl (ev_ld1 (j := 1) rfl rfl Tryz.isAgg4 (sub_nth (j := 1) rfl) rfl) (g1 rfl rfl rfl rfl) rfl rfl ?_
  refine o_run ft [7, 8] rfl rfl ?_
  refine o_nil ?_
  refine q_then ?_
  refine s_ret ?_
  cases H
  exact q_end (rs_1 Tryz.results110 (rv_tmp rfl)) ⟨rfl, rfl, rfl⟩ [] rfl 1 rfl [0] rfl 0 rfl

def meta_Other (a0_m : MetaS) : Option Int :=
some (wrap64 (1 - a0_m.Active))

theorem c_meta_Other (a0_m : MetaS) (r : Int) (H : meta_Other a0_m = some r) : Fn Tryz.prog 115 [(.agg (MetaS.cells a0_m).toArray)] [] [] (fun v D' G' => v = (vi r) ∧ D' = [] ∧ G' = []) := by
  unfold meta_Other at H
  refine fn_of Tryz.func115 rfl Tryz.ntmps115 rfl ?_
  intro w0 D0 G0
  dsimp only [app, initEnv, Nat.zero_add, Nat.reduceAdd]
  refine s_seq ?_
  refine s_reg [0, 1] rfl ?_
  refine oc (k_box rfl rfl rfl (cs := MetaS.cells a0_m) rfl (g0 rfl) rfl rfl ?_)
  intro b1
  refine o_run ft [1] rfl rfl ?_
  refine o_nil ?_
  refine q_then ?_
  refine s_seq ?_
  refine s_reg [0, 1, 2, 3] rfl ?_
  refine o_run ft [0] rfl rfl ?_
  refine o_ld (hG 0 rfl) rfl (ev_ld1 (j := 0) rfl rfl Tryz.isAgg3 (MetaS.sub_Active _) rfl) (g0 rfl) rfl rfl ?_
  refine o_run ft [2, 3] rfl rfl ?_
  refine o_nil ?_
  refine q_then ?_
  refine s_ret ?_
  cases H
  exact q_end (rs_1 Tryz.results115 (rv_tmp rfl)) ⟨rfl, rfl, rfl⟩ [] rfl 0 rfl [] rfl 1 rfl

def sha_first : Option (Arr UInt32 8) :=
some (⟨[(1779033703 : UInt32), (3144134277 : UInt32), (1013904242 : UInt32), (2773480762 : UInt32), (1359893119 : UInt32), (2600822924 : UInt32), (528734635 : UInt32), (1541459225 : UInt32)], rfl⟩ : Arr UInt32 8)

theorem c_sha_first (r : (Arr UInt32 8)) (H : sha_first  = some r) : Fn Tryz.prog 147 [] [] [] (fun v D' G' => v = (.agg (r.l.flatMap E32).toArray) ∧ D' = [] ∧ G' = []) := by
  unfold sha_first at H
  refine fn_of Tryz.func147 rfl Tryz.ntmps147 rfl ?_
  intro w0 D0 G0
  dsimp only [app, initEnv, Nat.zero_add, Nat.reduceAdd]
  refine s_seq ?_
  refine s_reg [0] rfl ?_
  refine oc (k_alloc rfl rfl Tryz.zeroValue176 (cs := (Arr.zero 0 8 : Arr UInt32 8).l.flatMap E32) rfl (g0 rfl) rfl rfl ?_)
  intro b1
  refine o_nil ?_
  refine q_then ?_
  refine s_seq ?_
  refine s_reg [0, 1] rfl ?_
  refine o_pu rfl (ev_build_arr (f := E32) (a := (⟨[(1779033703 : UInt32), (3144134277 : UInt32), (1013904242 : UInt32), (2773480762 : UInt32), (1359893119 : UInt32), (2600822924 : UInt32), (528734635 : UInt32), (1541459225 : UInt32)], rfl⟩ : Arr UInt32 8)) rfl rfl Tryz.zeroValue176 Tryz.runUnderlying176 Tryz.sizeOf141 (fill_all rfl rfl rfl rfl rfl)) (g0 rfl) rfl rfl ?_
  refine oc (k_st (j := 0) rfl rfl rfl rfl (vs := (⟨[(1779033703 : UInt32), (3144134277 : UInt32), (1013904242 : UInt32), (2773480762 : UInt32), (1359893119 : UInt32), (2600822924 : UInt32), (528734635 : UInt32), (1541459225 : UInt32)], rfl⟩ : Arr UInt32 8).l.flatMap E32) rfl (sz (arr_len E32_len _ rfl) Tryz.sizeOf176) (arr_sc E32_one _) 0 rfl (spl_all ((arr_len E32_len _ rfl).trans (arr_len E32_len _ rfl).symm)) rfl (g0 rfl) rfl ?_)
  refine o_nil ?_
  refine q_then ?_
  refine s_ret ?_
  cases H
  exact q_end (rs_1 Tryz.results147 (rv_cell (j := 0) rfl (hG 0 rfl) Tryz.isAgg176 (sz (arr_len E32_len _ rfl) Tryz.sizeOf176) (sub_all _) rfl)) ⟨rfl, rfl, rfl⟩ [] rfl 0 rfl [] rfl 1 rfl

def slices_Concat_l0 (a0_slices : List (List UInt8)) (J10 : (List UInt8) → Option (List UInt8)) : Nat → (List UInt8 × Int) → Option (List UInt8)
  | 0, _ => none
  | k13 + 1, s13 =>
    bif (decide (s13.2 < (a0_slices.length : Int))) then (
    chk (0 ≤ s13.2 ∧ s13.2 < a0_slices.length) <|
    chk (s13.1.length + (at' [] a0_slices s13.2).length ≤ 68719476736) <|
    slices_Concat_l0 a0_slices J10 k13 ((s13.1 ++ (at' [] a0_slices s13.2)), (wrap64 (s13.2 + 1)))) else (
    J10 s13.1)

def slices_Concat_l1 (a0_slices : List (List UInt8)) (J3 : Int → Option (List UInt8)) : Nat → (Int × Int) → Option (List UInt8)
  | 0, _ => none
  | k23 + 1, s23 =>
    bif (decide (s23.2 < (a0_slices.length : Int))) then (
    chk (0 ≤ s23.2 ∧ s23.2 < a0_slices.length) <|
    bif (decide ((wrap64 (s23.1 + ((at' [] a0_slices s23.2).length : Int))) < 0)) then (
    none) else (
    slices_Concat_l1 a0_slices J3 k23 ((wrap64 (s23.1 + ((at' [] a0_slices s23.2).length : Int))), (wrap64 (s23.2 + 1))))) else (
    J3 s23.1)

def slices_Concat (a0_slices : List (List UInt8)) : Option (List UInt8) :=
jn (fun (x4 : Int) =>
(slices_Grow x4).bind fun r6 =>
jn (fun (x11 : List UInt8) =>
some x11) fun J10 =>
slices_Concat_l0 a0_slices J10 Fuel (r6, 0)) fun J3 =>
slices_Concat_l1 a0_slices J3 Fuel (0, 0)

theorem c_slices_Concat (a0_slices : List (List UInt8)) (A1 : Option Addr) (c2 : Nat) (r : (List UInt8)) (H : slices_Concat a0_slices = some r) : Fn Tryz.prog 148 [(.slice A1 a0_slices.length c2)] [Sls A1 c2 a0_slices] [] (fun v D' G' => ∃ (A32 : Option Addr) (c33 : Nat), v = (.slice A32 r.length c33) ∧ D' = [Sl E8 A32 c33 r] ∧ G' = [Spare A32 r.length c33 1]) := by
  unfold slices_Concat at H
  refine fn_of Tryz.func148 rfl Tryz.ntmps148 rfl ?_
  intro w0 D0 G0
  dsimp only [app, initEnv, Nat.zero_add, Nat.reduceAdd]
  refine s_seq ?_
  refine s_reg [0] rfl ?_
  refine o_run ft [0] rfl rfl ?_
  refine o_nil ?_
  refine q_then ?_
  refine s_seq ?_
  refine s_reg [0] rfl ?_
  refine o_run ft [0] rfl rfl ?_
  refine o_nil ?_
  refine q_then ?_
  refine s_seq ?_
  refine s_seq ?_
  refine s_reg [0, 1, 2] rfl ?_
  refine o_run ft [0] rfl rfl ?_
  refine o_pu rfl (ev_len_slice rfl rfl Tryz.runUnderlying231) (g0 rfl) rfl rfl ?_
  refine o_run ft [2] rfl rfl ?_
  refine o_nil ?_
  refine q_then ?_
  refine q_join (fun (x4 : Int) (y5 : Unit) => ⟨Sls A1 c2 a0_slices :: D0, G0, [(0, (.slice A1 a0_slices.length c2)), (3, (vi x4))]⟩) H ?_ ?_
  · intro x4 y5 H
    dsimp only
    refine q_then ?_
    refine s_seq ?_
    refine s_reg [0, 1, 2] rfl ?_
    refine o_run ft [0] rfl rfl ?_
    obtain ⟨r6, Hc7, H⟩ := bind_some' H
    refine oc (k_call (c_slices_Grow x4 r6 Hc7) Tryz.call199 rfl rfl rfl [] [] rfl rfl (g0 rfl) rfl rfl ?_)
    rintro _ _ _ ⟨A8, c9, rfl, rfl, rfl⟩
    dsimp only [app]
    refine o_run ft [2] rfl rfl ?_
    refine o_nil ?_
    refine q_then ?_
    refine s_seq ?_
    refine s_seq ?_
    refine s_reg [0, 1, 2] rfl ?_
    refine o_run ft [0] rfl rfl ?_
    refine o_pu rfl (ev_len_slice rfl rfl Tryz.runUnderlying231) (g0 rfl) rfl rfl ?_
    refine o_run ft [2] rfl rfl ?_
    refine o_nil ?_
    refine q_then ?_
    refine q_join (fun (x11 : List UInt8) (y12 : Option Addr × Nat) => ⟨Sl E8 y12.1 y12.2 x11 :: Sl E8 A8 c9 r6 :: Sls A1 c2 a0_slices :: D0, Spare y12.1 x11.length y12.2 1 :: G0, [(6, (.slice y12.1 x11.length y12.2))]⟩) H ?_ ?_
    · intro x11 y12 H
      dsimp only
      refine q_then ?_
      refine s_seq ?_
      refine s_reg [0, 1] rfl ?_
      refine o_run ft [0, 1] rfl rfl ?_
      refine o_nil ?_
      refine q_then ?_
      refine s_ret ?_
      cases H
      exact q_end (rs_1 Tryz.results148 (rv_tmp rfl)) ⟨y12.1, y12.2, rfl, rfl, rfl⟩ [0] rfl 3 rfl [0] rfl 0 rfl
    · intro J10 J10h H
      refine s_block ?_
      refine s_loop (k_wk (loop_ind (fun (s13 : List UInt8 × Int) (y13 : Option Addr × Nat) => ⟨Sl E8 y13.1 y13.2 s13.1 :: Sl E8 A8 c9 r6 :: Sls A1 c2 a0_slices :: D0, Spare y13.1 s13.1.length y13.2 1 :: G0, [(6, (.slice y13.1 s13.1.length y13.2)), (25, (.slice A1 a0_slices.length c2)), (26, (vi (a0_slices.length : Int))), (27, (vi s13.2))]⟩) (slices_Concat_l0 a0_slices J10) _ (fun _ => rfl) ?_ Fuel (r6, 0) (A8, c9) H) [6, 25, 26, 27] [0, 0, 1] 2 [0] 0 rfl rfl rfl)
      intro k13 s13 y13 ih H
      dsimp only
      rw [slices_Concat_l0] at H
      refine s_seq ?_
      refine s_reg [0] rfl ?_
      refine o_run ft [0] rfl rfl ?_
      refine o_nil ?_
      refine q_then ?_
      refine s_seq ?_
      refine s_cond rfl ?_ ?_
      · intro hb14
        have H := cnd_t H hb14
        refine s_skip ?_
        refine q_then ?_
        refine s_seq ?_
        refine s_block ?_
        refine s_seq ?_
        refine s_reg [0, 1, 2] rfl ?_
        obtain ⟨hk19, H⟩ := chk_some H
        refine oc (k_idx_sls 2 rfl rfl rfl rfl rfl Tryz.runUnderlying231 Tryz.sizeOf22 hk19 (g0 rfl) rfl rfl ?_)
        intro b15 q16 A17 c18
        refine o_ld (hD 1 rfl) rfl (ev_ld1 (j := 0) rfl rfl Tryz.isAgg22 (sub_nth (j := 0) rfl) rfl) (g0 rfl) rfl rfl ?_
        refine o_run ft [2] rfl rfl ?_
        refine o_nil ?_
        refine q_then ?_
        refine s_reg [0, 1, 2, 3] rfl ?_
        refine o_run ft [0, 1] rfl rfl ?_
        obtain ⟨hk22, H⟩ := chk_some H
        refine oc (k_append 2 0 0 rfl rfl rfl rfl rfl rfl rfl E8_len E8_one Tryz.underlying22 Tryz.underlying22 info5 rfl rfl rfl rfl hk22 (g0 rfl) rfl rfl ?_)
        intro A20 c21
        refine o_run ft [3] rfl rfl ?_
        refine o_nil ?_
        refine q_block ?_
        refine q_then ?_
        refine s_reg [0, 1] rfl ?_
        refine o_run ft [0, 1] rfl rfl ?_
        refine o_nil ?_
        refine q_loop ?_
        exact k_wk (ih ((s13.1 ++ (at' [] a0_slices s13.2)), (wrap64 (s13.2 + 1))) (A20, c21) H) [6, 25, 26, 27] [0, 4, 5] 6 [0] 0 rfl rfl rfl
      · intro hb14
        have H := cnd_f H hb14
        refine s_exit ?_
        refine q_then_x ?_
        refine q_then_x ?_
        refine q_block_x ?_
        exact k_wk (J10h s13.1 (y13.1, y13.2) H) [6] [0, 1, 2] 3 [0] 0 rfl rfl rfl
  · intro J3 J3h H
    refine s_block ?_
    refine s_loop (k_wk (loop_ind (fun (s23 : Int × Int) (y23 : Unit) => ⟨Sls A1 c2 a0_slices :: D0, G0, [(0, (.slice A1 a0_slices.length c2)), (3, (vi s23.1)), (9, (.slice A1 a0_slices.length c2)), (10, (vi (a0_slices.length : Int))), (11, (vi s23.2))]⟩) (slices_Concat_l1 a0_slices J3) _ (fun _ => rfl) ?_ Fuel (0, 0) () H) [0, 3, 9, 10, 11] [0] 1 [] 0 rfl rfl rfl)
    intro k23 s23 y23 ih H
    dsimp only
    rw [slices_Concat_l1] at H
    refine s_seq ?_
    refine s_reg [0] rfl ?_
    refine o_run ft [0] rfl rfl ?_
    refine o_nil ?_
    refine q_then ?_
    refine s_seq ?_
    refine s_cond rfl ?_ ?_
    · intro hb24
      have H := cnd_t H hb24
      refine s_skip ?_
      refine q_then ?_
      refine s_seq ?_
      refine s_block ?_
      refine s_seq ?_
      refine s_reg [0, 1, 2] rfl ?_
      obtain ⟨hk29, H⟩ := chk_some H
      refine oc (k_idx_sls 0 rfl rfl rfl rfl rfl Tryz.runUnderlying231 Tryz.sizeOf22 hk29 (g0 rfl) rfl rfl ?_)
      intro b25 q26 A27 c28
      refine o_ld (hD 1 rfl) rfl (ev_ld1 (j := 0) rfl rfl Tryz.isAgg22 (sub_nth (j := 0) rfl) rfl) (g0 rfl) rfl rfl ?_
      refine o_run ft [2] rfl rfl ?_
      refine o_nil ?_
      refine q_then ?_
      refine s_seq ?_
      refine s_reg [0, 1, 2, 3, 4] rfl ?_
      refine o_run ft [0, 1] rfl rfl ?_
      refine o_pu rfl (ev_len_slice rfl rfl Tryz.runUnderlying22) (g0 rfl) rfl rfl ?_
      refine o_run ft [3, 4] rfl rfl ?_
      refine o_nil ?_
      refine q_then ?_
      refine s_seq ?_
      refine s_reg [0, 1] rfl ?_
      refine o_run ft [0, 1] rfl rfl ?_
      refine o_nil ?_
      refine q_then ?_
      refine s_cond rfl ?_ ?_
      · intro hb31
        have H := cnd_t H hb31
        refine s_reg [0, 1] rfl ?_
        cases H
      · intro hb31
        have H := cnd_f H hb31
        refine s_skip ?_
        refine q_block ?_
        refine q_then ?_
        refine s_reg [0, 1] rfl ?_
        refine o_run ft [0, 1] rfl rfl ?_
        refine o_nil ?_
        refine q_loop ?_
        exact k_wk (ih ((wrap64 (s23.1 + ((at' [] a0_slices s23.2).length : Int))), (wrap64 (s23.2 + 1))) () H) [0, 3, 9, 10, 11] [2] 3 [] 0 rfl rfl rfl
    · intro hb24
      have H := cnd_f H hb24
      refine s_exit ?_
      refine q_then_x ?_
      refine q_then_x ?_
      refine q_block_x ?_
      exact k_wk (J3h s23.1 () H) [0, 3] [0] 1 [] 0 rfl rfl rfl

def nor_Flash_is (a0_f : FlashS) (a1_sector : Int) : Option Bool :=
bnd (decide (a1_sector ≥ 0)) fun b1 =>
jn (fun x4 =>
some x4) fun J3 =>
bif b1 then (
(nor_Flash_Len a0_f).bind fun r5 =>
J3 (decide (a1_sector < r5))) else
J3 false

theorem c_nor_Flash_is (a0_fp : Nat) (a0_f : FlashS) (a0_fg : FlashG) (a1_sector : Int) (r : Bool) (H : nor_Flash_is a0_f a1_sector = some r) : Fn Tryz.prog 152 [(.pointer (some ⟨a0_fp, 0, none⟩)), (vi a1_sector)] [] [FlashT a0_fg a0_fp a0_f] (fun v D' G' => v = (vb r) ∧ D' = [] ∧ G' = [FlashT a0_fg a0_fp a0_f]) := by
  unfold nor_Flash_is at H
  refine fn_of Tryz.func152 rfl Tryz.ntmps152 rfl ?_
  intro w0 D0 G0
  dsimp only [app, initEnv, Nat.zero_add, Nat.reduceAdd]
  refine s_seq ?_
  refine s_reg [0] rfl ?_
  refine o_run ft [0] rfl rfl ?_
  refine o_nil ?_
  refine q_then ?_
  refine s_seq ?_
  refine s_reg [0, 1, 2, 3, 4, 5, 6, 7, 8] rfl ?_
  refine o_run ft [0, 1, 2] rfl rfl ?_
  refine k_name 7 rfl ?_
  intro b1 hb2
  have H := bnd_eq H hb2
  refine o_jb 12 [8] [0, 1, 4, 5, 6, 7] H rfl ?_ ?_
  · intro x4 H
    refine o_run ft [8] rfl rfl ?_
    refine o_nil ?_
    refine q_then ?_
    refine s_ret ?_
    cases H
    exact q_end (rs_1 Tryz.results152 (rv_tmp rfl)) ⟨rfl, rfl, rfl⟩ [] rfl 0 rfl [0] rfl 0 rfl
  · intro J3 J3h H
    cases b1 with
    | true =>
      rw [cond_true] at H
      refine o_run ft [3, 4] rfl rfl ?_
      obtain ⟨r5, Hc6, H⟩ := bind_some' H
      refine oc (k_call (c_nor_Flash_Len a0_fp a0_f a0_fg r5 Hc6) Tryz.call79 rfl rfl rfl [] [0] rfl rfl (g1 rfl rfl rfl rfl) rfl rfl ?_)
      rintro _ _ _ ⟨rfl, rfl, rfl⟩
      dsimp only [app]
      refine o_run ft [6, 7] rfl rfl ?_
      exact k_wk (J3h (decide (a1_sector < r5)) H) [12, 0, 1, 4, 5, 6, 7] [] 0 [0] 0 rfl rfl rfl
    | false =>
      rw [cond_false] at H
      refine o_gnot rfl rfl rfl rfl rfl rfl rfl rfl ?_
      refine o_gnot rfl rfl rfl rfl rfl rfl rfl rfl ?_
      refine o_gnot rfl rfl rfl rfl rfl rfl rfl rfl ?_
      refine o_gnot rfl rfl rfl rfl rfl rfl rfl rfl ?_
      refine o_run ft [7] rfl rfl ?_
      exact k_wk (J3h false H) [12, 0, 1, 4, 5, 6, 7] [] 0 [0] 0 rfl rfl rfl

end Go.Proofs.YtpdoioeckiiegaaGreatDoor.Wl
