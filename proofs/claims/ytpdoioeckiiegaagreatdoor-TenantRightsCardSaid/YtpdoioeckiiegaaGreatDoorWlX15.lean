import Derived.Test.YtpdoioeckiiegaaGreatDoorWlW
import Derived.Test.YtpdoioeckiiegaaGreatDoorWlX0
import Derived.Test.YtpdoioeckiiegaaGreatDoorWlX11
import Derived.Test.YtpdoioeckiiegaaGreatDoorWlX13
import Derived.Test.YtpdoioeckiiegaaGreatDoorWlX14
set_option linter.unusedSimpArgs false
set_option linter.unusedVariables false
set_option maxRecDepth 10000
namespace Go.Proofs.YtpdoioeckiiegaaGreatDoor.Wl
open Go.RowKit Go.Proofs
def tenant_Tenant_Do (a0_t : TenantS) (a1_q : Req) (fl0 : FlashS) : Option (RespS × Bool × TenantS × FlashS) :=
(caps_May a0_t.cap a1_q.Kind).bind fun r5 =>
bif (!r5) then (
some ((⟨14, 0, 0⟩ : RespS), true, a0_t, fl0)) else (
(tenant_Tenant_fact a0_t (⟨a1_q.Kind, a1_q.N, a1_q.Bytes⟩ : Req) fl0).bind fun r328 =>
(update_Do a0_t.m (⟨a1_q.Kind, a1_q.N, a1_q.Bytes⟩ : Req) r328 a0_t.c.Quota).bind fun r568 =>
jn (fun (x929 : Bool) =>
jn (fun (x933 : TenantS × FlashS) =>
some (r568.2, true, x933.1, x933.2)) fun J932 =>
bif x929 then (
(tenant_Tenant_keep a0_t (⟨a1_q.Kind, a1_q.N, a1_q.Bytes⟩ : Req) r568.1 fl0).bind fun r936 =>
bif (!r936.1) then (
some (RespS.zero, false, a0_t, r936.2)) else (
J932 ((⟨a0_t.part, a0_t.cap, (⟨a0_t.c.Name, a0_t.c.Key, a0_t.c.Slot, a0_t.c.Budget, a0_t.c.Quota, a0_t.c.Rights, a0_t.c.First⟩ : Config), r568.1⟩ : TenantS), r936.2))) else (
J932 (a0_t, fl0))) fun J928 =>
bnd (r568.2.Err == 0) fun b940 =>
bif b940 then (
J928 (!(decide (r568.1 = a0_t.m)))) else (
J928 false))

theorem c_tenant_Tenant_Do (fp0 : Nat) (a0_tp : Nat) (a0_t : TenantS) (a0_tg : TenantG) (a1_q : Req) (A1 : Option Addr) (c2 : Nat) (fl0 : FlashS) (fl0g : FlashG) (r : RespS × Bool × TenantS × FlashS) (H : tenant_Tenant_Do a0_t a1_q fl0 = some r) : Fn Tryz.prog 16 [(.pointer (some ⟨a0_tp, 0, none⟩)), (.agg ([vi a1_q.Kind, vi a1_q.N, .slice A1 a1_q.Bytes.length c2]).toArray)] [Sl E8 A1 c2 a1_q.Bytes] [TenantT fp0 a0_tg a0_tp a0_t, FlashT fl0g fp0 fl0] (fun v D' G' => ∃ (g928 : TenantG) (g929 : FlashG), v = (.tuple #[(.agg (RespS.cells r.1).toArray), (vb r.2.1)]) ∧ D' = [] ∧ G' = [TenantT fp0 g928 a0_tp r.2.2.1, FlashT g929 fp0 r.2.2.2]) := by
  unfold tenant_Tenant_Do at H
  refine fn_of Tryz.func16 rfl Tryz.ntmps16 rfl ?_
  intro w0 D0 G0
  dsimp only [app, initEnv, Nat.zero_add, Nat.reduceAdd]
  refine s_seq ?_
  refine s_reg [0, 1, 2] rfl ?_
  refine oc (k_box rfl rfl rfl (cs := [vi a1_q.Kind, vi a1_q.N, .slice A1 a1_q.Bytes.length c2]) rfl (g0 rfl) rfl rfl ?_)
  intro b3
  refine oc (k_alloc rfl rfl Tryz.zeroValue40 (cs := RespS.cells RespS.zero) rfl (g0 rfl) rfl rfl ?_)
  intro b4
  refine o_run ft [2] rfl rfl ?_
  refine o_nil ?_
  refine q_then ?_
  refine s_seq ?_
  refine s_seq ?_
  refine s_reg [0, 1] rfl ?_
  refine o_run ft [0] rfl rfl ?_
  refine o_pu rfl (ev_bin rfl rfl rfl rfl (eql_ptr_pn Tryz.runUnderlying33)) (g0 rfl) rfl rfl ?_
  refine o_nil ?_
  refine q_then ?_
  refine s_cond_f rfl ?_
  refine s_skip ?_
  refine q_then ?_
  refine s_seq ?_
  refine s_seq ?_
  refine k_unp 2 rfl ?_
  dsimp only [app, del]
  refine s_draw mixed [(3, [6], Has a0_tp 0 ([.iface 81 (.pointer (some ⟨a0_tg.b0, 0, none⟩))] ++ (CapS.cells a0_t.cap ++ ([vs a0_t.c.Name, .slice a0_tg.A3 a0_t.c.Key.length a0_tg.c3, vi a0_t.c.Slot, vi a0_t.c.Budget, vi a0_t.c.Quota, vi a0_t.c.Rights, .slice a0_tg.A8 a0_t.c.First.length a0_tg.c8] ++ (MetaS.cells a0_t.m))))), (5, [6], Has b3 0 [vi a1_q.Kind, vi a1_q.N, .slice A1 a1_q.Bytes.length c2])] ?_
  refine a_run ft [0, 1, 2] rfl (fun _ _ _ _ _ h => h) (by kernel_rfl) rfl ?_
  refine a_l1 3 0 rfl (by kernel_rfl) rfl (ev_ldN (j := 1) rfl rfl Tryz.isAgg28 (sz (CapS.len _) Tryz.sizeOf28) (sub_skip (n := 1) (sub_head (sub_all _)) rfl rfl) rfl) (fun _ _ _ h => h) (g0 rfl) rfl rfl ?_
  refine a_run ft [4] rfl (fun _ _ _ _ _ h => h) (by kernel_rfl) rfl ?_
  refine a_l1 5 1 rfl (by kernel_rfl) rfl (ev_ld1 (j := 0) rfl rfl Tryz.isAgg3 (sub_nth (j := 0) rfl) rfl) (fun _ _ _ h => h) (g0 rfl) rfl rfl ?_
  refine ac 6 (by kernel_rfl) (sl_cons (hG 0 rfl) (sl_cons (hG 3 rfl) sl_nil)) ?_
  obtain ⟨r5, Hc6, H⟩ := bind_some' H
  refine k_call (c_caps_May a0_t.cap a1_q.Kind r5 Hc6) Tryz.call48 rfl rfl rfl [] [] rfl rfl (g0 rfl) rfl rfl ?_
  rintro _ _ _ ⟨rfl, rfl, rfl⟩
  dsimp only [app]
  refine a_run ft [7] rfl (fun _ _ _ _ _ h => h) (by kernel_rfl) rfl ?_
  refine a_done (by kernel_rfl) (sl_end (by kernel_rfl) (sl_end (by kernel_rfl) sl_nil)) ?_
  refine q_then ?_
  refine s_cond rfl ?_ ?_
  · intro hb7
    have H := cnd_t H hb7
    refine s_seq ?_
    refine s_reg [0, 1, 2] rfl ?_
    refine o_pu rfl (ev_build (cs := RespS.cells (⟨14, 0, 0⟩ : RespS)) rfl rfl Tryz.zeroValue40 Tryz.runUnderlying40 pl40 (show Instr.fill _ (RespS.cells RespS.zero : List Value).toArray _ = some _ from (fill_cons rfl (s := [vi 14]) rfl rfl (RespS.set_Err _ 14) fill_nil))) (g0 rfl) rfl rfl ?_
    refine oc (k_st (j := 0) rfl rfl rfl rfl (vs := RespS.cells (⟨14, 0, 0⟩ : RespS)) rfl (sz (RespS.len _) Tryz.sizeOf40) (RespS.sc _) 2 rfl (spl_all ((RespS.len _).trans (RespS.len _).symm)) rfl (g0 rfl) rfl ?_)
    refine o_run ft [2] rfl rfl ?_
    refine o_nil ?_
    refine q_then ?_
    refine s_ret ?_
    refine q_then_r ?_
    refine k_pk (TenantT fp0 a0_tg a0_tp a0_t) rfl [0, 1] [0, 0] rfl rfl ?_
    cases H
    exact q_end (rs_2 Tryz.results16 (rv_cell (j := 0) rfl (hG 1 rfl) Tryz.isAgg40 (sz (RespS.len _) Tryz.sizeOf40) (sub_all _) rfl) (rv_tmp rfl)) ⟨a0_tg, fl0g, rfl, rfl, rfl⟩ [] rfl 3 rfl [0, 2] rfl 2 rfl
  · intro hb7
    have H := cnd_f H hb7
    refine s_skip ?_
    refine q_then ?_
    refine s_seq ?_
    obtain ⟨r328, Hc329, H⟩ := bind_some' H
    obtain ⟨r568, Hc569, H⟩ := bind_some' H
    refine s_draw mixed [(3, [13, 19, 20], Has a0_tp 0 ([.iface 81 (.pointer (some ⟨a0_tg.b0, 0, none⟩))] ++ (CapS.cells a0_t.cap ++ ([vs a0_t.c.Name, .slice a0_tg.A3 a0_t.c.Key.length a0_tg.c3, vi a0_t.c.Slot, vi a0_t.c.Budget, vi a0_t.c.Quota, vi a0_t.c.Rights, .slice a0_tg.A8 a0_t.c.First.length a0_tg.c8] ++ (MetaS.cells a0_t.m))))), (4, [13, 19, 20], Has b3 0 [vi a1_q.Kind, vi a1_q.N, .slice A1 a1_q.Bytes.length c2]), (6, [7, 19, 20], Has b3 0 [vi a1_q.Kind, vi a1_q.N, .slice A1 a1_q.Bytes.length c2]), (12, [13, 19, 20], Has a0_tp 0 ([.iface 81 (.pointer (some ⟨a0_tg.b0, 0, none⟩))] ++ (CapS.cells a0_t.cap ++ ([vs a0_t.c.Name, .slice a0_tg.A3 a0_t.c.Key.length a0_tg.c3, vi a0_t.c.Slot, vi a0_t.c.Budget, vi a0_t.c.Quota, vi a0_t.c.Rights, .slice a0_tg.A8 a0_t.c.First.length a0_tg.c8] ++ (MetaS.cells a0_t.m)))))] ?_
    refine wa_loc fun R to fro => to ?_
    have hN7_6 : ∀ (b728 : Nat), ∀ (b768 : Nat), (jn (fun (x929 : Bool) => jn (fun (x933 : TenantS × FlashS) => some (r568.2, true, x933.1, x933.2)) fun J932 => bif x929 then ( (tenant_Tenant_keep a0_t (⟨a1_q.Kind, a1_q.N, a1_q.Bytes⟩ : Req) r568.1 fl0).bind fun r936 => bif (!r936.1) then ( some (RespS.zero, false, a0_t, r936.2)) else ( J932 ((⟨a0_t.part, a0_t.cap, (⟨a0_t.c.Name, a0_t.c.Key, a0_t.c.Slot, a0_t.c.Budget, a0_t.c.Quota, a0_t.c.Rights, a0_t.c.First⟩ : Config), r568.1⟩ : TenantS), r936.2))) else ( J932 (a0_t, fl0))) fun J928 => bnd (r568.2.Err == 0) fun b940 => bif b940 then ( J928 (!(decide (r568.1 = a0_t.m)))) else ( J928 false)) = some r → R (Sl E8 A1 c2 a1_q.Bytes :: Sl E8 a0_tg.A3 a0_tg.c3 a0_t.c.Key :: Sl E8 a0_tg.A3 a0_tg.c3 a0_t.c.Key :: Sl E8 a0_tg.A8 a0_tg.c8 a0_t.c.First :: Sl E8 a0_tg.A8 a0_tg.c8 a0_t.c.First :: D0) (AreaT fp0 () a0_tg.b0 a0_t.part :: At a0_tp 0 ([.iface 81 (.pointer (some ⟨a0_tg.b0, 0, none⟩))] ++ (CapS.cells a0_t.cap ++ ([vs a0_t.c.Name, .slice a0_tg.A3 a0_t.c.Key.length a0_tg.c3, vi a0_t.c.Slot, vi a0_t.c.Budget, vi a0_t.c.Quota, vi a0_t.c.Rights, .slice a0_tg.A8 a0_t.c.First.length a0_tg.c8] ++ (MetaS.cells a0_t.m)))) :: At b3 0 [vi a1_q.Kind, vi a1_q.N, .slice A1 a1_q.Bytes.length c2] :: At b4 0 (RespS.cells RespS.zero) :: At b728 0 (MetaS.cells r568.1) :: At b768 0 (RespS.cells r568.2) :: FlashT fl0g fp0 fl0 :: G0) [(0, (.pointer (some ⟨a0_tp, 0, none⟩))), (3, (.pointer (some ⟨b3, 0, none⟩))), (4, (.pointer (some ⟨b4, 0, none⟩))), (5, (vb false)), (6, (.pointer (some ⟨b728, 0, none⟩))), (7, (.pointer (some ⟨b768, 0, none⟩)))] 0 #[true, true, true, true, true, true, true, true, true, true, true, true, true, true, true, true, true, true, true, true, true] := by
      intro b728 b768 H
      refine to ?_
      refine a_done (by kernel_rfl) (sl_end (by kernel_rfl) (sl_end (by kernel_rfl) (sl_end (by kernel_rfl) (sl_end (by kernel_rfl) sl_nil)))) ?_
      refine q_then ?_
      refine s_seq ?_
      refine s_seq ?_
      refine k_pk (TenantT fp0 a0_tg a0_tp a0_t) rfl [1, 3] [1, 0] rfl rfl ?_
      refine q_join (fun (x929 : Bool) (y930 : Unit) => ⟨Sl E8 A1 c2 a1_q.Bytes :: Sl E8 a0_tg.A3 a0_tg.c3 a0_t.c.Key :: Sl E8 a0_tg.A3 a0_tg.c3 a0_t.c.Key :: Sl E8 a0_tg.A8 a0_tg.c8 a0_t.c.First :: Sl E8 a0_tg.A8 a0_tg.c8 a0_t.c.First :: D0, At b3 0 [vi a1_q.Kind, vi a1_q.N, .slice A1 a1_q.Bytes.length c2] :: At b4 0 (RespS.cells RespS.zero) :: At b728 0 (MetaS.cells r568.1) :: At b768 0 (RespS.cells r568.2) :: TenantT fp0 a0_tg a0_tp a0_t :: FlashT fl0g fp0 fl0 :: G0, [(0, (.pointer (some ⟨a0_tp, 0, none⟩))), (3, (.pointer (some ⟨b3, 0, none⟩))), (4, (.pointer (some ⟨b4, 0, none⟩))), (6, (.pointer (some ⟨b728, 0, none⟩))), (7, (.pointer (some ⟨b768, 0, none⟩))), (47, (vb x929))]⟩) H ?_ ?_
      · intro x929 y930 H
        dsimp only
        refine q_then ?_
        refine q_join (fun (x933 : TenantS × FlashS) (y934 : TenantG × FlashG) => ⟨Sl E8 A1 c2 a1_q.Bytes :: Sl E8 a0_tg.A3 a0_tg.c3 a0_t.c.Key :: Sl E8 a0_tg.A3 a0_tg.c3 a0_t.c.Key :: Sl E8 a0_tg.A8 a0_tg.c8 a0_t.c.First :: Sl E8 a0_tg.A8 a0_tg.c8 a0_t.c.First :: D0, At b3 0 [vi a1_q.Kind, vi a1_q.N, .slice A1 a1_q.Bytes.length c2] :: At b4 0 (RespS.cells RespS.zero) :: At b728 0 (MetaS.cells r568.1) :: At b768 0 (RespS.cells r568.2) :: TenantT fp0 ⟨y934.1.b0, y934.1.g0, y934.1.A3, y934.1.c3, y934.1.A8, y934.1.c8⟩ a0_tp x933.1 :: FlashT ⟨y934.2.b0, y934.2.b1, y934.2.A3, y934.2.c3⟩ fp0 x933.2 :: G0, [(4, (.pointer (some ⟨b4, 0, none⟩))), (7, (.pointer (some ⟨b768, 0, none⟩)))]⟩) H ?_ ?_
        · intro x933 y934 H
          dsimp only
          refine q_then ?_
          refine s_seq ?_
          refine s_reg [0, 1, 2] rfl ?_
          refine o_ld (hG 3 rfl) rfl (ev_ldN (j := 0) rfl rfl Tryz.isAgg40 (sz (RespS.len _) Tryz.sizeOf40) (sub_all _) rfl) (g0 rfl) rfl rfl ?_
          refine oc (k_st (j := 0) rfl rfl rfl rfl (vs := RespS.cells r568.2) rfl (sz (RespS.len _) Tryz.sizeOf40) (RespS.sc _) 1 rfl (spl_all ((RespS.len _).trans (RespS.len _).symm)) rfl (g0 rfl) rfl ?_)
          refine o_run ft [2] rfl rfl ?_
          refine o_nil ?_
          refine q_then ?_
          refine s_ret ?_
          cases H
          exact q_end (rs_2 Tryz.results16 (rv_cell (j := 0) rfl (hG 1 rfl) Tryz.isAgg40 (sz (RespS.len _) Tryz.sizeOf40) (sub_all _) rfl) (rv_tmp rfl)) ⟨⟨y934.1.b0, y934.1.g0, y934.1.A3, y934.1.c3, y934.1.A8, y934.1.c8⟩, ⟨y934.2.b0, y934.2.b1, y934.2.A3, y934.2.c3⟩, rfl, rfl, rfl⟩ [] rfl 5 rfl [4, 4] rfl 4 rfl
        · intro J932 J932h H
          refine s_cond rfl ?_ ?_
          · intro hb935
            have H := cnd_t H hb935
            refine s_seq ?_
            refine s_seq ?_
            refine s_reg [0, 1, 2, 3, 4] rfl ?_
            refine o_run ft [0] rfl rfl ?_
            refine o_ld (hG 0 rfl) rfl (ev_ldN (j := 0) (s := [vi a1_q.Kind, vi a1_q.N, .slice A1 a1_q.Bytes.length c2]) rfl rfl Tryz.isAgg44 (sz rfl Tryz.sizeOf44) (sub_all _) rfl) (g0 rfl) rfl rfl ?_
            refine o_ld (hG 2 rfl) rfl (ev_ldN (j := 0) rfl rfl Tryz.isAgg52 (sz (MetaS.len _) Tryz.sizeOf52) (sub_all _) rfl) (g0 rfl) rfl rfl ?_
            obtain ⟨r936, Hc937, H⟩ := bind_some' H
            refine oc (k_call (c_tenant_Tenant_keep fp0 a0_tp a0_t a0_tg (⟨a1_q.Kind, a1_q.N, a1_q.Bytes⟩ : Req) A1 c2 r568.1 fl0 fl0g r936 Hc937) Tryz.call51 rfl rfl rfl [0] [4, 4] rfl rfl (g0 rfl) rfl rfl ?_)
            rintro _ _ _ ⟨g938, rfl, rfl, rfl⟩
            dsimp only [app]
            refine o_run ft [4] rfl rfl ?_
            refine o_nil ?_
            refine q_then ?_
            refine s_cond rfl ?_ ?_
            · intro hb939
              have H := cnd_t H hb939
              refine s_seq ?_
              refine s_reg [0, 1, 2] rfl ?_
              refine o_pu rfl (ev_build (cs := RespS.cells RespS.zero) rfl rfl Tryz.zeroValue40 Tryz.runUnderlying40 pl40 (show Instr.fill _ (RespS.cells RespS.zero : List Value).toArray _ = some _ from fill_nil)) (g0 rfl) rfl rfl ?_
              refine oc (k_st (j := 0) rfl rfl rfl rfl (vs := RespS.cells RespS.zero) rfl (sz (RespS.len _) Tryz.sizeOf40) (RespS.sc _) 3 rfl (spl_all ((RespS.len _).trans (RespS.len _).symm)) rfl (g0 rfl) rfl ?_)
              refine o_run ft [2] rfl rfl ?_
              refine o_nil ?_
              refine q_then ?_
              refine s_ret ?_
              refine q_then_r ?_
              refine q_then_r ?_
              cases H
              exact q_end (rs_2 Tryz.results16 (rv_cell (j := 0) rfl (hG 3 rfl) Tryz.isAgg40 (sz (RespS.len _) Tryz.sizeOf40) (sub_all _) rfl) (rv_tmp rfl)) ⟨a0_tg, g938, rfl, rfl, rfl⟩ [] rfl 5 rfl [0, 0] rfl 4 rfl
            · intro hb939
              have H := cnd_f H hb939
              refine s_skip ?_
              refine q_then ?_
              refine s_reg [0, 1, 2, 3, 4] rfl ?_
              refine o_run ft [0] rfl rfl ?_
              refine o_ld (hG 4 rfl) rfl (ev_ldN (j := 0) rfl rfl Tryz.isAgg52 (sz (MetaS.len _) Tryz.sizeOf52) (sub_all _) rfl) (g0 rfl) rfl rfl ?_
              refine o_run ft [2, 3] rfl rfl ?_
              refine k_unp 0 rfl ?_
              dsimp only [app, del]
              refine oc (k_st (j := 11) rfl rfl rfl rfl (vs := MetaS.cells r568.1) rfl (sz (MetaS.len _) Tryz.sizeOf52) (MetaS.sc _) 0 rfl (spl_skip (n := 1) (spl_skip (n := 3) (spl_skip (n := 7) (spl_all ((MetaS.len _).trans (MetaS.len _).symm)) rfl rfl) (CapS.len _) rfl) rfl rfl) rfl (g0 rfl) rfl ?_)
              refine o_nil ?_
              refine k_pk (TenantT fp0 ⟨a0_tg.b0, (), a0_tg.A3, a0_tg.c3, a0_tg.A8, a0_tg.c8⟩ a0_tp (⟨a0_t.part, a0_t.cap, (⟨a0_t.c.Name, a0_t.c.Key, a0_t.c.Slot, a0_t.c.Budget, a0_t.c.Quota, a0_t.c.Rights, a0_t.c.First⟩ : Config), r568.1⟩ : TenantS)) rfl [0, 1] [0, 0] rfl rfl ?_
              exact k_wk (J932h ((⟨a0_t.part, a0_t.cap, (⟨a0_t.c.Name, a0_t.c.Key, a0_t.c.Slot, a0_t.c.Budget, a0_t.c.Quota, a0_t.c.Rights, a0_t.c.First⟩ : Config), r568.1⟩ : TenantS), r936.2) (⟨a0_tg.b0, (), a0_tg.A3, a0_tg.c3, a0_tg.A8, a0_tg.c8⟩, g938) H) [4, 7] [2, 0, 0, 1, 1] 7 [2, 2, 2, 2, 0, 0] 0 rfl rfl rfl
          · intro hb935
            have H := cnd_f H hb935
            refine s_skip ?_
            exact k_wk (J932h (a0_t, fl0) (a0_tg, fl0g) H) [4, 7] [0, 1, 1, 3, 3] 5 [0, 0, 0, 0, 0, 0] 0 rfl rfl rfl
      · intro J928 J928h H
        refine k_unp 0 rfl ?_
        dsimp only [app, del]
        refine s_draw mixed [(1, [], Has b768 0 (RespS.cells r568.2)), (4, [], Has b728 0 (MetaS.cells r568.1)), (8, [], Has a0_tp 0 ([.iface 81 (.pointer (some ⟨a0_tg.b0, 0, none⟩))] ++ (CapS.cells a0_t.cap ++ ([vs a0_t.c.Name, .slice a0_tg.A3 a0_t.c.Key.length a0_tg.c3, vi a0_t.c.Slot, vi a0_t.c.Budget, vi a0_t.c.Quota, vi a0_t.c.Rights, .slice a0_tg.A8 a0_t.c.First.length a0_tg.c8] ++ (MetaS.cells a0_t.m)))))] ?_
        refine a_run ft [0] rfl (fun _ _ _ _ _ h => h) (by kernel_rfl) rfl ?_
        refine a_l1 1 0 rfl (by kernel_rfl) rfl (ev_ld1 (j := 0) rfl rfl Tryz.isAgg31 (RespS.sub_Err _) rfl) (fun _ _ _ h => h) (g0 rfl) rfl rfl ?_
        refine a_run ft [2, 3] rfl (fun _ _ _ _ _ h => h) (by kernel_rfl) rfl ?_
        refine k_name 40 rfl ?_
        intro b940 hb941
        have H := bnd_eq H hb941
        cases b940 with
        | true =>
          rw [cond_true] at H
          refine a_l1 4 1 rfl (by kernel_rfl) rfl (ev_ldN (j := 0) rfl rfl Tryz.isAgg52 (sz (MetaS.len _) Tryz.sizeOf52) (sub_all _) rfl) (fun _ _ _ h => h) (g1 rfl rfl rfl rfl) rfl rfl ?_
          refine a_run ft [5, 6, 7] rfl (fun _ _ _ _ _ h => h) (by kernel_rfl) rfl ?_
          refine a_l1 8 2 rfl (by kernel_rfl) rfl (ev_ldN (j := 11) rfl rfl Tryz.isAgg52 (sz (MetaS.len _) Tryz.sizeOf52) (sub_skip (n := 1) (sub_skip (n := 3) (sub_skip (n := 7) (sub_all _) rfl rfl) (CapS.len _) rfl) rfl rfl) rfl) (fun _ _ _ h => h) (g1 rfl rfl rfl rfl) rfl rfl ?_
          refine a_p1 9 (by kernel_rfl) rfl (ev_neA (f := MetaS.cells) (X := r568.1) (Y := a0_t.m) rfl rfl rfl eqT52 rfl Tryz.isAgg52 Tryz.sizeOf52 MetaS.len eqG52) (fun _ _ _ h => h) (g1 rfl rfl rfl rfl) rfl rfl ?_
          refine a_run ft [10] rfl (fun _ _ _ _ _ h => h) (by kernel_rfl) rfl ?_
          refine a_done (by kernel_rfl) (sl_cons (hG 5 rfl) (sl_cons (hG 4 rfl) (sl_cons (hG 0 rfl) sl_nil))) ?_
          refine k_pk (TenantT fp0 a0_tg a0_tp a0_t) rfl [0, 1] [0, 0] rfl rfl ?_
          exact k_wk (J928h (!(decide (r568.1 = a0_t.m))) () H) [0, 3, 4, 6, 7, 47] [2, 0, 0, 1, 1] 7 [1, 1, 1, 1, 0, 0] 0 rfl rfl rfl
        | false =>
          rw [cond_false] at H
          refine a_run ft [4, 5, 6, 7, 8, 9, 10] rfl (fun _ _ _ _ _ h => h) (by kernel_rfl) rfl ?_
          refine a_done (by kernel_rfl) (sl_cons (hG 5 rfl) (sl_cons (hG 4 rfl) (sl_cons (hG 0 rfl) sl_nil))) ?_
          refine k_pk (TenantT fp0 a0_tg a0_tp a0_t) rfl [0, 1] [0, 0] rfl rfl ?_
          exact k_wk (J928h false () H) [0, 3, 4, 6, 7, 47] [2, 0, 0, 1, 1] 7 [1, 1, 1, 1, 0, 0] 0 rfl rfl rfl
    have hN7_5 : ∀ (b728 : Nat), ∀ (b768 : Nat), (jn (fun (x929 : Bool) => jn (fun (x933 : TenantS × FlashS) => some (r568.2, true, x933.1, x933.2)) fun J932 => bif x929 then ( (tenant_Tenant_keep a0_t (⟨a1_q.Kind, a1_q.N, a1_q.Bytes⟩ : Req) r568.1 fl0).bind fun r936 => bif (!r936.1) then ( some (RespS.zero, false, a0_t, r936.2)) else ( J932 ((⟨a0_t.part, a0_t.cap, (⟨a0_t.c.Name, a0_t.c.Key, a0_t.c.Slot, a0_t.c.Budget, a0_t.c.Quota, a0_t.c.Rights, a0_t.c.First⟩ : Config), r568.1⟩ : TenantS), r936.2))) else ( J932 (a0_t, fl0))) fun J928 => bnd (r568.2.Err == 0) fun b940 => bif b940 then ( J928 (!(decide (r568.1 = a0_t.m)))) else ( J928 false)) = some r → R (Sl E8 A1 c2 a1_q.Bytes :: Sl E8 a0_tg.A3 a0_tg.c3 a0_t.c.Key :: Sl E8 a0_tg.A3 a0_tg.c3 a0_t.c.Key :: Sl E8 a0_tg.A8 a0_tg.c8 a0_t.c.First :: Sl E8 a0_tg.A8 a0_tg.c8 a0_t.c.First :: D0) (AreaT fp0 () a0_tg.b0 a0_t.part :: At a0_tp 0 ([.iface 81 (.pointer (some ⟨a0_tg.b0, 0, none⟩))] ++ (CapS.cells a0_t.cap ++ ([vs a0_t.c.Name, .slice a0_tg.A3 a0_t.c.Key.length a0_tg.c3, vi a0_t.c.Slot, vi a0_t.c.Budget, vi a0_t.c.Quota, vi a0_t.c.Rights, .slice a0_tg.A8 a0_t.c.First.length a0_tg.c8] ++ (MetaS.cells a0_t.m)))) :: At b3 0 [vi a1_q.Kind, vi a1_q.N, .slice A1 a1_q.Bytes.length c2] :: At b4 0 (RespS.cells RespS.zero) :: At b728 0 (MetaS.cells r568.1) :: At b768 0 (RespS.cells RespS.zero) :: FlashT fl0g fp0 fl0 :: G0) [(0, (.pointer (some ⟨a0_tp, 0, none⟩))), (3, (.pointer (some ⟨b3, 0, none⟩))), (4, (.pointer (some ⟨b4, 0, none⟩))), (5, (vb false)), (6, (.pointer (some ⟨b728, 0, none⟩))), (7, (.pointer (some ⟨b768, 0, none⟩))), (36, (.agg (RespS.cells r568.2).toArray))] 1 #[true, true, true, true, true, true, true, true, true, true, true, true, true, true, true, true, true, true, true, true, false] := by
      intro b728 b768 H
      refine to ?_
      refine acs [20] rfl (by kernel_rfl) (sl_end (by kernel_rfl) (sl_end (by kernel_rfl) (sl_end (by kernel_rfl) (sl_end (by kernel_rfl) sl_nil)))) ⟨?_, trivial⟩
      · refine k_st (j := 0) rfl rfl rfl rfl (vs := RespS.cells r568.2) rfl (sz (RespS.len _) Tryz.sizeOf40) (RespS.sc _) 5 rfl (spl_all ((RespS.len _).trans (RespS.len _).symm)) rfl (g0 rfl) rfl ?_
        exact wa_l (by kernel_rfl) (k_wk (fro (hN7_6 b728 b768 H)) [0, 3, 4, 5, 6, 7] [0, 1, 1, 3, 3] 5 [0, 0, 0, 0, 0, 0, 0] 0 rfl rfl rfl)
    have hN7_4 : ∀ (b728 : Nat), ∀ (b768 : Nat), (jn (fun (x929 : Bool) => jn (fun (x933 : TenantS × FlashS) => some (r568.2, true, x933.1, x933.2)) fun J932 => bif x929 then ( (tenant_Tenant_keep a0_t (⟨a1_q.Kind, a1_q.N, a1_q.Bytes⟩ : Req) r568.1 fl0).bind fun r936 => bif (!r936.1) then ( some (RespS.zero, false, a0_t, r936.2)) else ( J932 ((⟨a0_t.part, a0_t.cap, (⟨a0_t.c.Name, a0_t.c.Key, a0_t.c.Slot, a0_t.c.Budget, a0_t.c.Quota, a0_t.c.Rights, a0_t.c.First⟩ : Config), r568.1⟩ : TenantS), r936.2))) else ( J932 (a0_t, fl0))) fun J928 => bnd (r568.2.Err == 0) fun b940 => bif b940 then ( J928 (!(decide (r568.1 = a0_t.m)))) else ( J928 false)) = some r → R (Sl E8 A1 c2 a1_q.Bytes :: Sl E8 a0_tg.A3 a0_tg.c3 a0_t.c.Key :: Sl E8 a0_tg.A3 a0_tg.c3 a0_t.c.Key :: Sl E8 a0_tg.A8 a0_tg.c8 a0_t.c.First :: Sl E8 a0_tg.A8 a0_tg.c8 a0_t.c.First :: D0) (AreaT fp0 () a0_tg.b0 a0_t.part :: At a0_tp 0 ([.iface 81 (.pointer (some ⟨a0_tg.b0, 0, none⟩))] ++ (CapS.cells a0_t.cap ++ ([vs a0_t.c.Name, .slice a0_tg.A3 a0_t.c.Key.length a0_tg.c3, vi a0_t.c.Slot, vi a0_t.c.Budget, vi a0_t.c.Quota, vi a0_t.c.Rights, .slice a0_tg.A8 a0_t.c.First.length a0_tg.c8] ++ (MetaS.cells a0_t.m)))) :: At b3 0 [vi a1_q.Kind, vi a1_q.N, .slice A1 a1_q.Bytes.length c2] :: At b4 0 (RespS.cells RespS.zero) :: At b728 0 (MetaS.cells MetaS.zero) :: At b768 0 (RespS.cells RespS.zero) :: FlashT fl0g fp0 fl0 :: G0) [(0, (.pointer (some ⟨a0_tp, 0, none⟩))), (3, (.pointer (some ⟨b3, 0, none⟩))), (4, (.pointer (some ⟨b4, 0, none⟩))), (5, (vb false)), (6, (.pointer (some ⟨b728, 0, none⟩))), (7, (.pointer (some ⟨b768, 0, none⟩))), (35, (.agg (MetaS.cells r568.1).toArray)), (36, (.agg (RespS.cells r568.2).toArray))] 2 #[true, true, true, true, true, true, true, true, true, true, true, true, true, true, true, true, true, true, true, false, false] := by
      intro b728 b768 H
      refine to ?_
      refine acs [19] rfl (by kernel_rfl) (sl_end (by kernel_rfl) (sl_end (by kernel_rfl) (sl_end (by kernel_rfl) (sl_end (by kernel_rfl) sl_nil)))) ⟨?_, trivial⟩
      · refine k_st (j := 0) rfl rfl rfl rfl (vs := MetaS.cells r568.1) rfl (sz (MetaS.len _) Tryz.sizeOf52) (MetaS.sc _) 4 rfl (spl_all ((MetaS.len _).trans (MetaS.len _).symm)) rfl (g0 rfl) rfl ?_
        exact wa_l (by kernel_rfl) (k_wk (fro (hN7_5 b728 b768 H)) [0, 3, 4, 5, 6, 7, 36] [0, 1, 1, 3, 3] 5 [0, 0, 0, 0, 0, 0, 0] 0 rfl rfl rfl)
    have hN7_3 : ∀ (b728 : Nat), (jn (fun (x929 : Bool) => jn (fun (x933 : TenantS × FlashS) => some (r568.2, true, x933.1, x933.2)) fun J932 => bif x929 then ( (tenant_Tenant_keep a0_t (⟨a1_q.Kind, a1_q.N, a1_q.Bytes⟩ : Req) r568.1 fl0).bind fun r936 => bif (!r936.1) then ( some (RespS.zero, false, a0_t, r936.2)) else ( J932 ((⟨a0_t.part, a0_t.cap, (⟨a0_t.c.Name, a0_t.c.Key, a0_t.c.Slot, a0_t.c.Budget, a0_t.c.Quota, a0_t.c.Rights, a0_t.c.First⟩ : Config), r568.1⟩ : TenantS), r936.2))) else ( J932 (a0_t, fl0))) fun J928 => bnd (r568.2.Err == 0) fun b940 => bif b940 then ( J928 (!(decide (r568.1 = a0_t.m)))) else ( J928 false)) = some r → R (Sl E8 A1 c2 a1_q.Bytes :: Sl E8 a0_tg.A3 a0_tg.c3 a0_t.c.Key :: Sl E8 a0_tg.A3 a0_tg.c3 a0_t.c.Key :: Sl E8 a0_tg.A8 a0_tg.c8 a0_t.c.First :: Sl E8 a0_tg.A8 a0_tg.c8 a0_t.c.First :: D0) (AreaT fp0 () a0_tg.b0 a0_t.part :: At a0_tp 0 ([.iface 81 (.pointer (some ⟨a0_tg.b0, 0, none⟩))] ++ (CapS.cells a0_t.cap ++ ([vs a0_t.c.Name, .slice a0_tg.A3 a0_t.c.Key.length a0_tg.c3, vi a0_t.c.Slot, vi a0_t.c.Budget, vi a0_t.c.Quota, vi a0_t.c.Rights, .slice a0_tg.A8 a0_t.c.First.length a0_tg.c8] ++ (MetaS.cells a0_t.m)))) :: At b3 0 [vi a1_q.Kind, vi a1_q.N, .slice A1 a1_q.Bytes.length c2] :: At b4 0 (RespS.cells RespS.zero) :: At b728 0 (MetaS.cells MetaS.zero) :: FlashT fl0g fp0 fl0 :: G0) [(0, (.pointer (some ⟨a0_tp, 0, none⟩))), (3, (.pointer (some ⟨b3, 0, none⟩))), (4, (.pointer (some ⟨b4, 0, none⟩))), (5, (vb false)), (6, (.pointer (some ⟨b728, 0, none⟩))), (35, (.agg (MetaS.cells r568.1).toArray)), (36, (.agg (RespS.cells r568.2).toArray))] 3 #[true, true, true, true, true, true, true, true, true, true, true, true, true, true, true, true, true, true, false, false, false] := by
      intro b728 H
      refine to ?_
      refine acs [18] rfl (by kernel_rfl) (sl_end (by kernel_rfl) (sl_end (by kernel_rfl) (sl_end (by kernel_rfl) (sl_end (by kernel_rfl) sl_nil)))) ⟨?_, trivial⟩
      · refine k_alloc rfl rfl Tryz.zeroValue40 (cs := RespS.cells RespS.zero) rfl (g0 rfl) rfl rfl ?_
        intro b768
        exact wa_l (by kernel_rfl) (k_wk (fro (hN7_4 b728 b768 H)) [0, 3, 4, 5, 6, 7, 35, 36] [0, 1, 1, 3, 3] 5 [1, 1, 1, 1, 1, 0, 0] 0 rfl rfl rfl)
    have hN7_7 : ∀ (b768 : Nat), (jn (fun (x929 : Bool) => jn (fun (x933 : TenantS × FlashS) => some (r568.2, true, x933.1, x933.2)) fun J932 => bif x929 then ( (tenant_Tenant_keep a0_t (⟨a1_q.Kind, a1_q.N, a1_q.Bytes⟩ : Req) r568.1 fl0).bind fun r936 => bif (!r936.1) then ( some (RespS.zero, false, a0_t, r936.2)) else ( J932 ((⟨a0_t.part, a0_t.cap, (⟨a0_t.c.Name, a0_t.c.Key, a0_t.c.Slot, a0_t.c.Budget, a0_t.c.Quota, a0_t.c.Rights, a0_t.c.First⟩ : Config), r568.1⟩ : TenantS), r936.2))) else ( J932 (a0_t, fl0))) fun J928 => bnd (r568.2.Err == 0) fun b940 => bif b940 then ( J928 (!(decide (r568.1 = a0_t.m)))) else ( J928 false)) = some r → R (Sl E8 A1 c2 a1_q.Bytes :: Sl E8 a0_tg.A3 a0_tg.c3 a0_t.c.Key :: Sl E8 a0_tg.A3 a0_tg.c3 a0_t.c.Key :: Sl E8 a0_tg.A8 a0_tg.c8 a0_t.c.First :: Sl E8 a0_tg.A8 a0_tg.c8 a0_t.c.First :: D0) (AreaT fp0 () a0_tg.b0 a0_t.part :: At a0_tp 0 ([.iface 81 (.pointer (some ⟨a0_tg.b0, 0, none⟩))] ++ (CapS.cells a0_t.cap ++ ([vs a0_t.c.Name, .slice a0_tg.A3 a0_t.c.Key.length a0_tg.c3, vi a0_t.c.Slot, vi a0_t.c.Budget, vi a0_t.c.Quota, vi a0_t.c.Rights, .slice a0_tg.A8 a0_t.c.First.length a0_tg.c8] ++ (MetaS.cells a0_t.m)))) :: At b3 0 [vi a1_q.Kind, vi a1_q.N, .slice A1 a1_q.Bytes.length c2] :: At b4 0 (RespS.cells RespS.zero) :: At b768 0 (RespS.cells RespS.zero) :: FlashT fl0g fp0 fl0 :: G0) [(0, (.pointer (some ⟨a0_tp, 0, none⟩))), (3, (.pointer (some ⟨b3, 0, none⟩))), (4, (.pointer (some ⟨b4, 0, none⟩))), (5, (vb false)), (7, (.pointer (some ⟨b768, 0, none⟩))), (35, (.agg (MetaS.cells r568.1).toArray)), (36, (.agg (RespS.cells r568.2).toArray))] 3 #[true, true, true, true, true, true, true, true, true, true, true, true, true, true, true, true, true, false, true, false, false] := by
      intro b768 H
      refine to ?_
      refine acs [17] rfl (by kernel_rfl) (sl_end (by kernel_rfl) (sl_end (by kernel_rfl) (sl_end (by kernel_rfl) (sl_end (by kernel_rfl) sl_nil)))) ⟨?_, trivial⟩
      · refine k_alloc rfl rfl Tryz.zeroValue52 (cs := MetaS.cells MetaS.zero) rfl (g0 rfl) rfl rfl ?_
        intro b728
        exact wa_l (by kernel_rfl) (k_wk (fro (hN7_4 b728 b768 H)) [0, 3, 4, 5, 6, 7, 35, 36] [0, 1, 1, 3, 3] 5 [1, 1, 1, 1, 0, 0, 0] 0 rfl rfl rfl)
    have hN7_2 : (jn (fun (x929 : Bool) => jn (fun (x933 : TenantS × FlashS) => some (r568.2, true, x933.1, x933.2)) fun J932 => bif x929 then ( (tenant_Tenant_keep a0_t (⟨a1_q.Kind, a1_q.N, a1_q.Bytes⟩ : Req) r568.1 fl0).bind fun r936 => bif (!r936.1) then ( some (RespS.zero, false, a0_t, r936.2)) else ( J932 ((⟨a0_t.part, a0_t.cap, (⟨a0_t.c.Name, a0_t.c.Key, a0_t.c.Slot, a0_t.c.Budget, a0_t.c.Quota, a0_t.c.Rights, a0_t.c.First⟩ : Config), r568.1⟩ : TenantS), r936.2))) else ( J932 (a0_t, fl0))) fun J928 => bnd (r568.2.Err == 0) fun b940 => bif b940 then ( J928 (!(decide (r568.1 = a0_t.m)))) else ( J928 false)) = some r → R (Sl E8 A1 c2 a1_q.Bytes :: Sl E8 a0_tg.A3 a0_tg.c3 a0_t.c.Key :: Sl E8 a0_tg.A3 a0_tg.c3 a0_t.c.Key :: Sl E8 a0_tg.A8 a0_tg.c8 a0_t.c.First :: Sl E8 a0_tg.A8 a0_tg.c8 a0_t.c.First :: D0) (AreaT fp0 () a0_tg.b0 a0_t.part :: At a0_tp 0 ([.iface 81 (.pointer (some ⟨a0_tg.b0, 0, none⟩))] ++ (CapS.cells a0_t.cap ++ ([vs a0_t.c.Name, .slice a0_tg.A3 a0_t.c.Key.length a0_tg.c3, vi a0_t.c.Slot, vi a0_t.c.Budget, vi a0_t.c.Quota, vi a0_t.c.Rights, .slice a0_tg.A8 a0_t.c.First.length a0_tg.c8] ++ (MetaS.cells a0_t.m)))) :: At b3 0 [vi a1_q.Kind, vi a1_q.N, .slice A1 a1_q.Bytes.length c2] :: At b4 0 (RespS.cells RespS.zero) :: FlashT fl0g fp0 fl0 :: G0) [(0, (.pointer (some ⟨a0_tp, 0, none⟩))), (3, (.pointer (some ⟨b3, 0, none⟩))), (4, (.pointer (some ⟨b4, 0, none⟩))), (5, (vb false)), (35, (.agg (MetaS.cells r568.1).toArray)), (36, (.agg (RespS.cells r568.2).toArray))] 4 #[true, true, true, true, true, true, true, true, true, true, true, true, true, true, true, true, true, false, false, false, false] := by
      intro H
      refine to ?_
      refine acs [17, 18] rfl (by kernel_rfl) (sl_end (by kernel_rfl) (sl_end (by kernel_rfl) (sl_end (by kernel_rfl) (sl_end (by kernel_rfl) sl_nil)))) ⟨?_, ?_, trivial⟩
      · refine k_alloc rfl rfl Tryz.zeroValue52 (cs := MetaS.cells MetaS.zero) rfl (g0 rfl) rfl rfl ?_
        intro b728
        exact wa_l (by kernel_rfl) (k_wk (fro (hN7_3 b728 H)) [0, 3, 4, 5, 6, 35, 36] [0, 1, 1, 3, 3] 5 [1, 1, 1, 1, 0, 0] 0 rfl rfl rfl)
      · refine k_alloc rfl rfl Tryz.zeroValue40 (cs := RespS.cells RespS.zero) rfl (g0 rfl) rfl rfl ?_
        intro b768
        exact wa_l (by kernel_rfl) (k_wk (fro (hN7_7 b768 H)) [0, 3, 4, 5, 7, 35, 36] [0, 1, 1, 3, 3] 5 [1, 1, 1, 1, 0, 0] 0 rfl rfl rfl)
    have hN7_9 : ∀ (b728 : Nat), ∀ (b768 : Nat), (jn (fun (x929 : Bool) => jn (fun (x933 : TenantS × FlashS) => some (r568.2, true, x933.1, x933.2)) fun J932 => bif x929 then ( (tenant_Tenant_keep a0_t (⟨a1_q.Kind, a1_q.N, a1_q.Bytes⟩ : Req) r568.1 fl0).bind fun r936 => bif (!r936.1) then ( some (RespS.zero, false, a0_t, r936.2)) else ( J932 ((⟨a0_t.part, a0_t.cap, (⟨a0_t.c.Name, a0_t.c.Key, a0_t.c.Slot, a0_t.c.Budget, a0_t.c.Quota, a0_t.c.Rights, a0_t.c.First⟩ : Config), r568.1⟩ : TenantS), r936.2))) else ( J932 (a0_t, fl0))) fun J928 => bnd (r568.2.Err == 0) fun b940 => bif b940 then ( J928 (!(decide (r568.1 = a0_t.m)))) else ( J928 false)) = some r → R (Sl E8 A1 c2 a1_q.Bytes :: Sl E8 a0_tg.A3 a0_tg.c3 a0_t.c.Key :: Sl E8 a0_tg.A3 a0_tg.c3 a0_t.c.Key :: Sl E8 a0_tg.A8 a0_tg.c8 a0_t.c.First :: Sl E8 a0_tg.A8 a0_tg.c8 a0_t.c.First :: D0) (AreaT fp0 () a0_tg.b0 a0_t.part :: At a0_tp 0 ([.iface 81 (.pointer (some ⟨a0_tg.b0, 0, none⟩))] ++ (CapS.cells a0_t.cap ++ ([vs a0_t.c.Name, .slice a0_tg.A3 a0_t.c.Key.length a0_tg.c3, vi a0_t.c.Slot, vi a0_t.c.Budget, vi a0_t.c.Quota, vi a0_t.c.Rights, .slice a0_tg.A8 a0_t.c.First.length a0_tg.c8] ++ (MetaS.cells a0_t.m)))) :: At b3 0 [vi a1_q.Kind, vi a1_q.N, .slice A1 a1_q.Bytes.length c2] :: At b4 0 (RespS.cells RespS.zero) :: At b728 0 (MetaS.cells MetaS.zero) :: At b768 0 (RespS.cells RespS.zero) :: FlashT fl0g fp0 fl0 :: G0) [(0, (.pointer (some ⟨a0_tp, 0, none⟩))), (3, (.pointer (some ⟨b3, 0, none⟩))), (4, (.pointer (some ⟨b4, 0, none⟩))), (5, (vb false)), (6, (.pointer (some ⟨b728, 0, none⟩))), (7, (.pointer (some ⟨b768, 0, none⟩))), (24, (.agg (MetaS.cells a0_t.m).toArray)), (25, (.agg ([vi a1_q.Kind, vi a1_q.N, .slice A1 a1_q.Bytes.length c2]).toArray)), (28, (.agg (FactS.cells r328).toArray)), (33, (vi a0_t.c.Quota))] 6 #[true, true, true, true, true, true, true, true, true, true, true, true, true, false, false, false, false, true, true, false, false] := by
      intro b728 b768 H
      refine to ?_
      refine acs [13] rfl (by kernel_rfl) (sl_cons (hG 1 rfl) (sl_cons (hG 2 rfl) (sl_end (by kernel_rfl) (sl_cons (hG 1 rfl) sl_nil)))) ⟨?_, trivial⟩
      · refine k_call (c_update_Do a0_t.m (⟨a1_q.Kind, a1_q.N, a1_q.Bytes⟩ : Req) A1 c2 r328 a0_t.c.Quota r568 Hc569) Tryz.call49 rfl rfl rfl [0] [] rfl rfl (g0 rfl) rfl rfl ?_
        rintro _ _ _ ⟨rfl, rfl, rfl⟩
        dsimp only [app]
        refine a_run ft [14, 15, 16] rfl (fun _ _ _ _ _ h => h) (by kernel_rfl) rfl ?_
        exact wa_l (by kernel_rfl) (k_wk (fro (hN7_4 b728 b768 H)) [0, 3, 4, 5, 6, 7, 35, 36] [0, 1, 1, 3, 3] 5 [0, 0, 0, 0, 0, 0, 0] 0 rfl rfl rfl)
    have hN7_8 : ∀ (b728 : Nat), (jn (fun (x929 : Bool) => jn (fun (x933 : TenantS × FlashS) => some (r568.2, true, x933.1, x933.2)) fun J932 => bif x929 then ( (tenant_Tenant_keep a0_t (⟨a1_q.Kind, a1_q.N, a1_q.Bytes⟩ : Req) r568.1 fl0).bind fun r936 => bif (!r936.1) then ( some (RespS.zero, false, a0_t, r936.2)) else ( J932 ((⟨a0_t.part, a0_t.cap, (⟨a0_t.c.Name, a0_t.c.Key, a0_t.c.Slot, a0_t.c.Budget, a0_t.c.Quota, a0_t.c.Rights, a0_t.c.First⟩ : Config), r568.1⟩ : TenantS), r936.2))) else ( J932 (a0_t, fl0))) fun J928 => bnd (r568.2.Err == 0) fun b940 => bif b940 then ( J928 (!(decide (r568.1 = a0_t.m)))) else ( J928 false)) = some r → R (Sl E8 A1 c2 a1_q.Bytes :: Sl E8 a0_tg.A3 a0_tg.c3 a0_t.c.Key :: Sl E8 a0_tg.A3 a0_tg.c3 a0_t.c.Key :: Sl E8 a0_tg.A8 a0_tg.c8 a0_t.c.First :: Sl E8 a0_tg.A8 a0_tg.c8 a0_t.c.First :: D0) (AreaT fp0 () a0_tg.b0 a0_t.part :: At a0_tp 0 ([.iface 81 (.pointer (some ⟨a0_tg.b0, 0, none⟩))] ++ (CapS.cells a0_t.cap ++ ([vs a0_t.c.Name, .slice a0_tg.A3 a0_t.c.Key.length a0_tg.c3, vi a0_t.c.Slot, vi a0_t.c.Budget, vi a0_t.c.Quota, vi a0_t.c.Rights, .slice a0_tg.A8 a0_t.c.First.length a0_tg.c8] ++ (MetaS.cells a0_t.m)))) :: At b3 0 [vi a1_q.Kind, vi a1_q.N, .slice A1 a1_q.Bytes.length c2] :: At b4 0 (RespS.cells RespS.zero) :: At b728 0 (MetaS.cells MetaS.zero) :: FlashT fl0g fp0 fl0 :: G0) [(0, (.pointer (some ⟨a0_tp, 0, none⟩))), (3, (.pointer (some ⟨b3, 0, none⟩))), (4, (.pointer (some ⟨b4, 0, none⟩))), (5, (vb false)), (6, (.pointer (some ⟨b728, 0, none⟩))), (24, (.agg (MetaS.cells a0_t.m).toArray)), (25, (.agg ([vi a1_q.Kind, vi a1_q.N, .slice A1 a1_q.Bytes.length c2]).toArray)), (28, (.agg (FactS.cells r328).toArray)), (33, (vi a0_t.c.Quota))] 7 #[true, true, true, true, true, true, true, true, true, true, true, true, true, false, false, false, false, true, false, false, false] := by
      intro b728 H
      refine to ?_
      refine acs [13, 18] rfl (by kernel_rfl) (sl_cons (hG 1 rfl) (sl_cons (hG 2 rfl) (sl_end (by kernel_rfl) (sl_cons (hG 1 rfl) sl_nil)))) ⟨?_, ?_, trivial⟩
      · refine k_call (c_update_Do a0_t.m (⟨a1_q.Kind, a1_q.N, a1_q.Bytes⟩ : Req) A1 c2 r328 a0_t.c.Quota r568 Hc569) Tryz.call49 rfl rfl rfl [0] [] rfl rfl (g0 rfl) rfl rfl ?_
        rintro _ _ _ ⟨rfl, rfl, rfl⟩
        dsimp only [app]
        refine a_run ft [14, 15, 16] rfl (fun _ _ _ _ _ h => h) (by kernel_rfl) rfl ?_
        exact wa_l (by kernel_rfl) (k_wk (fro (hN7_3 b728 H)) [0, 3, 4, 5, 6, 35, 36] [0, 1, 1, 3, 3] 5 [0, 0, 0, 0, 0, 0] 0 rfl rfl rfl)
      · refine k_alloc rfl rfl Tryz.zeroValue40 (cs := RespS.cells RespS.zero) rfl (g0 rfl) rfl rfl ?_
        intro b768
        exact wa_l (by kernel_rfl) (k_wk (fro (hN7_9 b728 b768 H)) [0, 3, 4, 5, 6, 7, 24, 25, 28, 33] [0, 1, 1, 3, 3] 5 [1, 1, 1, 1, 1, 0, 0] 0 rfl rfl rfl)
    have hN7_10 : ∀ (b768 : Nat), (jn (fun (x929 : Bool) => jn (fun (x933 : TenantS × FlashS) => some (r568.2, true, x933.1, x933.2)) fun J932 => bif x929 then ( (tenant_Tenant_keep a0_t (⟨a1_q.Kind, a1_q.N, a1_q.Bytes⟩ : Req) r568.1 fl0).bind fun r936 => bif (!r936.1) then ( some (RespS.zero, false, a0_t, r936.2)) else ( J932 ((⟨a0_t.part, a0_t.cap, (⟨a0_t.c.Name, a0_t.c.Key, a0_t.c.Slot, a0_t.c.Budget, a0_t.c.Quota, a0_t.c.Rights, a0_t.c.First⟩ : Config), r568.1⟩ : TenantS), r936.2))) else ( J932 (a0_t, fl0))) fun J928 => bnd (r568.2.Err == 0) fun b940 => bif b940 then ( J928 (!(decide (r568.1 = a0_t.m)))) else ( J928 false)) = some r → R (Sl E8 A1 c2 a1_q.Bytes :: Sl E8 a0_tg.A3 a0_tg.c3 a0_t.c.Key :: Sl E8 a0_tg.A3 a0_tg.c3 a0_t.c.Key :: Sl E8 a0_tg.A8 a0_tg.c8 a0_t.c.First :: Sl E8 a0_tg.A8 a0_tg.c8 a0_t.c.First :: D0) (AreaT fp0 () a0_tg.b0 a0_t.part :: At a0_tp 0 ([.iface 81 (.pointer (some ⟨a0_tg.b0, 0, none⟩))] ++ (CapS.cells a0_t.cap ++ ([vs a0_t.c.Name, .slice a0_tg.A3 a0_t.c.Key.length a0_tg.c3, vi a0_t.c.Slot, vi a0_t.c.Budget, vi a0_t.c.Quota, vi a0_t.c.Rights, .slice a0_tg.A8 a0_t.c.First.length a0_tg.c8] ++ (MetaS.cells a0_t.m)))) :: At b3 0 [vi a1_q.Kind, vi a1_q.N, .slice A1 a1_q.Bytes.length c2] :: At b4 0 (RespS.cells RespS.zero) :: At b768 0 (RespS.cells RespS.zero) :: FlashT fl0g fp0 fl0 :: G0) [(0, (.pointer (some ⟨a0_tp, 0, none⟩))), (3, (.pointer (some ⟨b3, 0, none⟩))), (4, (.pointer (some ⟨b4, 0, none⟩))), (5, (vb false)), (7, (.pointer (some ⟨b768, 0, none⟩))), (24, (.agg (MetaS.cells a0_t.m).toArray)), (25, (.agg ([vi a1_q.Kind, vi a1_q.N, .slice A1 a1_q.Bytes.length c2]).toArray)), (28, (.agg (FactS.cells r328).toArray)), (33, (vi a0_t.c.Quota))] 7 #[true, true, true, true, true, true, true, true, true, true, true, true, true, false, false, false, false, false, true, false, false] := by
      intro b768 H
      refine to ?_
      refine acs [13, 17] rfl (by kernel_rfl) (sl_cons (hG 1 rfl) (sl_cons (hG 2 rfl) (sl_end (by kernel_rfl) (sl_cons (hG 1 rfl) sl_nil)))) ⟨?_, ?_, trivial⟩
      · refine k_call (c_update_Do a0_t.m (⟨a1_q.Kind, a1_q.N, a1_q.Bytes⟩ : Req) A1 c2 r328 a0_t.c.Quota r568 Hc569) Tryz.call49 rfl rfl rfl [0] [] rfl rfl (g0 rfl) rfl rfl ?_
        rintro _ _ _ ⟨rfl, rfl, rfl⟩
        dsimp only [app]
        refine a_run ft [14, 15, 16] rfl (fun _ _ _ _ _ h => h) (by kernel_rfl) rfl ?_
        exact wa_l (by kernel_rfl) (k_wk (fro (hN7_7 b768 H)) [0, 3, 4, 5, 7, 35, 36] [0, 1, 1, 3, 3] 5 [0, 0, 0, 0, 0, 0] 0 rfl rfl rfl)
      · refine k_alloc rfl rfl Tryz.zeroValue52 (cs := MetaS.cells MetaS.zero) rfl (g0 rfl) rfl rfl ?_
        intro b728
        exact wa_l (by kernel_rfl) (k_wk (fro (hN7_9 b728 b768 H)) [0, 3, 4, 5, 6, 7, 24, 25, 28, 33] [0, 1, 1, 3, 3] 5 [1, 1, 1, 1, 0, 0, 0] 0 rfl rfl rfl)
    have hN7_1 : (jn (fun (x929 : Bool) => jn (fun (x933 : TenantS × FlashS) => some (r568.2, true, x933.1, x933.2)) fun J932 => bif x929 then ( (tenant_Tenant_keep a0_t (⟨a1_q.Kind, a1_q.N, a1_q.Bytes⟩ : Req) r568.1 fl0).bind fun r936 => bif (!r936.1) then ( some (RespS.zero, false, a0_t, r936.2)) else ( J932 ((⟨a0_t.part, a0_t.cap, (⟨a0_t.c.Name, a0_t.c.Key, a0_t.c.Slot, a0_t.c.Budget, a0_t.c.Quota, a0_t.c.Rights, a0_t.c.First⟩ : Config), r568.1⟩ : TenantS), r936.2))) else ( J932 (a0_t, fl0))) fun J928 => bnd (r568.2.Err == 0) fun b940 => bif b940 then ( J928 (!(decide (r568.1 = a0_t.m)))) else ( J928 false)) = some r → R (Sl E8 A1 c2 a1_q.Bytes :: Sl E8 a0_tg.A3 a0_tg.c3 a0_t.c.Key :: Sl E8 a0_tg.A3 a0_tg.c3 a0_t.c.Key :: Sl E8 a0_tg.A8 a0_tg.c8 a0_t.c.First :: Sl E8 a0_tg.A8 a0_tg.c8 a0_t.c.First :: D0) (AreaT fp0 () a0_tg.b0 a0_t.part :: At a0_tp 0 ([.iface 81 (.pointer (some ⟨a0_tg.b0, 0, none⟩))] ++ (CapS.cells a0_t.cap ++ ([vs a0_t.c.Name, .slice a0_tg.A3 a0_t.c.Key.length a0_tg.c3, vi a0_t.c.Slot, vi a0_t.c.Budget, vi a0_t.c.Quota, vi a0_t.c.Rights, .slice a0_tg.A8 a0_t.c.First.length a0_tg.c8] ++ (MetaS.cells a0_t.m)))) :: At b3 0 [vi a1_q.Kind, vi a1_q.N, .slice A1 a1_q.Bytes.length c2] :: At b4 0 (RespS.cells RespS.zero) :: FlashT fl0g fp0 fl0 :: G0) [(0, (.pointer (some ⟨a0_tp, 0, none⟩))), (3, (.pointer (some ⟨b3, 0, none⟩))), (4, (.pointer (some ⟨b4, 0, none⟩))), (5, (vb false)), (24, (.agg (MetaS.cells a0_t.m).toArray)), (25, (.agg ([vi a1_q.Kind, vi a1_q.N, .slice A1 a1_q.Bytes.length c2]).toArray)), (28, (.agg (FactS.cells r328).toArray)), (33, (vi a0_t.c.Quota))] 8 #[true, true, true, true, true, true, true, true, true, true, true, true, true, false, false, false, false, false, false, false, false] := by
      intro H
      refine to ?_
      refine acs [13, 17, 18] rfl (by kernel_rfl) (sl_cons (hG 1 rfl) (sl_cons (hG 2 rfl) (sl_end (by kernel_rfl) (sl_cons (hG 1 rfl) sl_nil)))) ⟨?_, ?_, ?_, trivial⟩
      · refine k_call (c_update_Do a0_t.m (⟨a1_q.Kind, a1_q.N, a1_q.Bytes⟩ : Req) A1 c2 r328 a0_t.c.Quota r568 Hc569) Tryz.call49 rfl rfl rfl [0] [] rfl rfl (g0 rfl) rfl rfl ?_
        rintro _ _ _ ⟨rfl, rfl, rfl⟩
        dsimp only [app]
        refine a_run ft [14, 15, 16] rfl (fun _ _ _ _ _ h => h) (by kernel_rfl) rfl ?_
        exact wa_l (by kernel_rfl) (k_wk (fro (hN7_2 H)) [0, 3, 4, 5, 35, 36] [0, 1, 1, 3, 3] 5 [0, 0, 0, 0, 0] 0 rfl rfl rfl)
      · refine k_alloc rfl rfl Tryz.zeroValue52 (cs := MetaS.cells MetaS.zero) rfl (g0 rfl) rfl rfl ?_
        intro b728
        exact wa_l (by kernel_rfl) (k_wk (fro (hN7_8 b728 H)) [0, 3, 4, 5, 6, 24, 25, 28, 33] [0, 1, 1, 3, 3] 5 [1, 1, 1, 1, 0, 0] 0 rfl rfl rfl)
      · refine k_alloc rfl rfl Tryz.zeroValue40 (cs := RespS.cells RespS.zero) rfl (g0 rfl) rfl rfl ?_
        intro b768
        exact wa_l (by kernel_rfl) (k_wk (fro (hN7_10 b768 H)) [0, 3, 4, 5, 7, 24, 25, 28, 33] [0, 1, 1, 3, 3] 5 [1, 1, 1, 1, 0, 0] 0 rfl rfl rfl)
    have hN7_12 : ∀ (b728 : Nat), ∀ (b768 : Nat), (jn (fun (x929 : Bool) => jn (fun (x933 : TenantS × FlashS) => some (r568.2, true, x933.1, x933.2)) fun J932 => bif x929 then ( (tenant_Tenant_keep a0_t (⟨a1_q.Kind, a1_q.N, a1_q.Bytes⟩ : Req) r568.1 fl0).bind fun r936 => bif (!r936.1) then ( some (RespS.zero, false, a0_t, r936.2)) else ( J932 ((⟨a0_t.part, a0_t.cap, (⟨a0_t.c.Name, a0_t.c.Key, a0_t.c.Slot, a0_t.c.Budget, a0_t.c.Quota, a0_t.c.Rights, a0_t.c.First⟩ : Config), r568.1⟩ : TenantS), r936.2))) else ( J932 (a0_t, fl0))) fun J928 => bnd (r568.2.Err == 0) fun b940 => bif b940 then ( J928 (!(decide (r568.1 = a0_t.m)))) else ( J928 false)) = some r → R (Sl E8 A1 c2 a1_q.Bytes :: Sl E8 a0_tg.A3 a0_tg.c3 a0_t.c.Key :: Sl E8 a0_tg.A8 a0_tg.c8 a0_t.c.First :: D0) (AreaT fp0 () a0_tg.b0 a0_t.part :: At a0_tp 0 ([.iface 81 (.pointer (some ⟨a0_tg.b0, 0, none⟩))] ++ (CapS.cells a0_t.cap ++ ([vs a0_t.c.Name, .slice a0_tg.A3 a0_t.c.Key.length a0_tg.c3, vi a0_t.c.Slot, vi a0_t.c.Budget, vi a0_t.c.Quota, vi a0_t.c.Rights, .slice a0_tg.A8 a0_t.c.First.length a0_tg.c8] ++ (MetaS.cells a0_t.m)))) :: At b3 0 [vi a1_q.Kind, vi a1_q.N, .slice A1 a1_q.Bytes.length c2] :: At b4 0 (RespS.cells RespS.zero) :: At b728 0 (MetaS.cells MetaS.zero) :: At b768 0 (RespS.cells RespS.zero) :: FlashT fl0g fp0 fl0 :: G0) [(0, (.pointer (some ⟨a0_tp, 0, none⟩))), (3, (.pointer (some ⟨b3, 0, none⟩))), (4, (.pointer (some ⟨b4, 0, none⟩))), (5, (vb false)), (6, (.pointer (some ⟨b728, 0, none⟩))), (7, (.pointer (some ⟨b768, 0, none⟩))), (24, (.agg (MetaS.cells a0_t.m).toArray)), (25, (.agg ([vi a1_q.Kind, vi a1_q.N, .slice A1 a1_q.Bytes.length c2]).toArray)), (26, (.pointer (some ⟨a0_tp, 0, none⟩))), (27, (.agg ([vi a1_q.Kind, vi a1_q.N, .slice A1 a1_q.Bytes.length c2]).toArray)), (33, (vi a0_t.c.Quota))] 7 #[true, true, true, true, true, true, true, false, true, true, true, true, true, false, false, false, false, true, true, false, false] := by
      intro b728 b768 H
      refine to ?_
      refine acs [7] rfl (by kernel_rfl) (sl_cons (hG 1 rfl) (sl_cons (hG 2 rfl) (sl_cons (hG 2 rfl) (sl_cons (hG 1 rfl) sl_nil)))) ⟨?_, trivial⟩
      · refine k_pk (TenantT fp0 a0_tg a0_tp a0_t) rfl [1, 2] [1, 0] rfl rfl ?_
        refine k_call (c_tenant_Tenant_fact fp0 a0_tp a0_t a0_tg (⟨a1_q.Kind, a1_q.N, a1_q.Bytes⟩ : Req) A1 c2 fl0 fl0g r328 Hc329) Tryz.call50 rfl rfl rfl [0] [0, 4] rfl rfl (g0 rfl) rfl rfl ?_
        rintro _ _ _ ⟨rfl, rfl, rfl⟩
        dsimp only [app]
        refine k_unp 0 rfl ?_
        dsimp only [app, del]
        exact wa_l (by kernel_rfl) (k_wk (fro (hN7_9 b728 b768 H)) [0, 3, 4, 5, 6, 7, 24, 25, 28, 33] [2, 0, 0, 1, 1] 5 [1, 0, 1, 1, 1, 1, 0] 0 rfl rfl rfl)
    have hN7_11 : ∀ (b728 : Nat), (jn (fun (x929 : Bool) => jn (fun (x933 : TenantS × FlashS) => some (r568.2, true, x933.1, x933.2)) fun J932 => bif x929 then ( (tenant_Tenant_keep a0_t (⟨a1_q.Kind, a1_q.N, a1_q.Bytes⟩ : Req) r568.1 fl0).bind fun r936 => bif (!r936.1) then ( some (RespS.zero, false, a0_t, r936.2)) else ( J932 ((⟨a0_t.part, a0_t.cap, (⟨a0_t.c.Name, a0_t.c.Key, a0_t.c.Slot, a0_t.c.Budget, a0_t.c.Quota, a0_t.c.Rights, a0_t.c.First⟩ : Config), r568.1⟩ : TenantS), r936.2))) else ( J932 (a0_t, fl0))) fun J928 => bnd (r568.2.Err == 0) fun b940 => bif b940 then ( J928 (!(decide (r568.1 = a0_t.m)))) else ( J928 false)) = some r → R (Sl E8 A1 c2 a1_q.Bytes :: Sl E8 a0_tg.A3 a0_tg.c3 a0_t.c.Key :: Sl E8 a0_tg.A8 a0_tg.c8 a0_t.c.First :: D0) (AreaT fp0 () a0_tg.b0 a0_t.part :: At a0_tp 0 ([.iface 81 (.pointer (some ⟨a0_tg.b0, 0, none⟩))] ++ (CapS.cells a0_t.cap ++ ([vs a0_t.c.Name, .slice a0_tg.A3 a0_t.c.Key.length a0_tg.c3, vi a0_t.c.Slot, vi a0_t.c.Budget, vi a0_t.c.Quota, vi a0_t.c.Rights, .slice a0_tg.A8 a0_t.c.First.length a0_tg.c8] ++ (MetaS.cells a0_t.m)))) :: At b3 0 [vi a1_q.Kind, vi a1_q.N, .slice A1 a1_q.Bytes.length c2] :: At b4 0 (RespS.cells RespS.zero) :: At b728 0 (MetaS.cells MetaS.zero) :: FlashT fl0g fp0 fl0 :: G0) [(0, (.pointer (some ⟨a0_tp, 0, none⟩))), (3, (.pointer (some ⟨b3, 0, none⟩))), (4, (.pointer (some ⟨b4, 0, none⟩))), (5, (vb false)), (6, (.pointer (some ⟨b728, 0, none⟩))), (24, (.agg (MetaS.cells a0_t.m).toArray)), (25, (.agg ([vi a1_q.Kind, vi a1_q.N, .slice A1 a1_q.Bytes.length c2]).toArray)), (26, (.pointer (some ⟨a0_tp, 0, none⟩))), (27, (.agg ([vi a1_q.Kind, vi a1_q.N, .slice A1 a1_q.Bytes.length c2]).toArray)), (33, (vi a0_t.c.Quota))] 8 #[true, true, true, true, true, true, true, false, true, true, true, true, true, false, false, false, false, true, false, false, false] := by
      intro b728 H
      refine to ?_
      refine acs [7, 18] rfl (by kernel_rfl) (sl_cons (hG 1 rfl) (sl_cons (hG 2 rfl) (sl_cons (hG 2 rfl) (sl_cons (hG 1 rfl) sl_nil)))) ⟨?_, ?_, trivial⟩
      · refine k_pk (TenantT fp0 a0_tg a0_tp a0_t) rfl [1, 2] [1, 0] rfl rfl ?_
        refine k_call (c_tenant_Tenant_fact fp0 a0_tp a0_t a0_tg (⟨a1_q.Kind, a1_q.N, a1_q.Bytes⟩ : Req) A1 c2 fl0 fl0g r328 Hc329) Tryz.call50 rfl rfl rfl [0] [0, 3] rfl rfl (g0 rfl) rfl rfl ?_
        rintro _ _ _ ⟨rfl, rfl, rfl⟩
        dsimp only [app]
        refine k_unp 0 rfl ?_
        dsimp only [app, del]
        exact wa_l (by kernel_rfl) (k_wk (fro (hN7_8 b728 H)) [0, 3, 4, 5, 6, 24, 25, 28, 33] [2, 0, 0, 1, 1] 5 [1, 0, 1, 1, 1, 0] 0 rfl rfl rfl)
      · refine k_alloc rfl rfl Tryz.zeroValue40 (cs := RespS.cells RespS.zero) rfl (g0 rfl) rfl rfl ?_
        intro b768
        exact wa_l (by kernel_rfl) (k_wk (fro (hN7_12 b728 b768 H)) [0, 3, 4, 5, 6, 7, 24, 25, 26, 27, 33] [0, 1, 2] 3 [1, 1, 1, 1, 1, 0, 0] 0 rfl rfl rfl)
    have hN7_13 : ∀ (b768 : Nat), (jn (fun (x929 : Bool) => jn (fun (x933 : TenantS × FlashS) => some (r568.2, true, x933.1, x933.2)) fun J932 => bif x929 then ( (tenant_Tenant_keep a0_t (⟨a1_q.Kind, a1_q.N, a1_q.Bytes⟩ : Req) r568.1 fl0).bind fun r936 => bif (!r936.1) then ( some (RespS.zero, false, a0_t, r936.2)) else ( J932 ((⟨a0_t.part, a0_t.cap, (⟨a0_t.c.Name, a0_t.c.Key, a0_t.c.Slot, a0_t.c.Budget, a0_t.c.Quota, a0_t.c.Rights, a0_t.c.First⟩ : Config), r568.1⟩ : TenantS), r936.2))) else ( J932 (a0_t, fl0))) fun J928 => bnd (r568.2.Err == 0) fun b940 => bif b940 then ( J928 (!(decide (r568.1 = a0_t.m)))) else ( J928 false)) = some r → R (Sl E8 A1 c2 a1_q.Bytes :: Sl E8 a0_tg.A3 a0_tg.c3 a0_t.c.Key :: Sl E8 a0_tg.A8 a0_tg.c8 a0_t.c.First :: D0) (AreaT fp0 () a0_tg.b0 a0_t.part :: At a0_tp 0 ([.iface 81 (.pointer (some ⟨a0_tg.b0, 0, none⟩))] ++ (CapS.cells a0_t.cap ++ ([vs a0_t.c.Name, .slice a0_tg.A3 a0_t.c.Key.length a0_tg.c3, vi a0_t.c.Slot, vi a0_t.c.Budget, vi a0_t.c.Quota, vi a0_t.c.Rights, .slice a0_tg.A8 a0_t.c.First.length a0_tg.c8] ++ (MetaS.cells a0_t.m)))) :: At b3 0 [vi a1_q.Kind, vi a1_q.N, .slice A1 a1_q.Bytes.length c2] :: At b4 0 (RespS.cells RespS.zero) :: At b768 0 (RespS.cells RespS.zero) :: FlashT fl0g fp0 fl0 :: G0) [(0, (.pointer (some ⟨a0_tp, 0, none⟩))), (3, (.pointer (some ⟨b3, 0, none⟩))), (4, (.pointer (some ⟨b4, 0, none⟩))), (5, (vb false)), (7, (.pointer (some ⟨b768, 0, none⟩))), (24, (.agg (MetaS.cells a0_t.m).toArray)), (25, (.agg ([vi a1_q.Kind, vi a1_q.N, .slice A1 a1_q.Bytes.length c2]).toArray)), (26, (.pointer (some ⟨a0_tp, 0, none⟩))), (27, (.agg ([vi a1_q.Kind, vi a1_q.N, .slice A1 a1_q.Bytes.length c2]).toArray)), (33, (vi a0_t.c.Quota))] 8 #[true, true, true, true, true, true, true, false, true, true, true, true, true, false, false, false, false, false, true, false, false] := by
      intro b768 H
      refine to ?_
      refine acs [7, 17] rfl (by kernel_rfl) (sl_cons (hG 1 rfl) (sl_cons (hG 2 rfl) (sl_cons (hG 2 rfl) (sl_cons (hG 1 rfl) sl_nil)))) ⟨?_, ?_, trivial⟩
      · refine k_pk (TenantT fp0 a0_tg a0_tp a0_t) rfl [1, 2] [1, 0] rfl rfl ?_
        refine k_call (c_tenant_Tenant_fact fp0 a0_tp a0_t a0_tg (⟨a1_q.Kind, a1_q.N, a1_q.Bytes⟩ : Req) A1 c2 fl0 fl0g r328 Hc329) Tryz.call50 rfl rfl rfl [0] [0, 3] rfl rfl (g0 rfl) rfl rfl ?_
        rintro _ _ _ ⟨rfl, rfl, rfl⟩
        dsimp only [app]
        refine k_unp 0 rfl ?_
        dsimp only [app, del]
        exact wa_l (by kernel_rfl) (k_wk (fro (hN7_10 b768 H)) [0, 3, 4, 5, 7, 24, 25, 28, 33] [2, 0, 0, 1, 1] 5 [1, 0, 1, 1, 1, 0] 0 rfl rfl rfl)
      · refine k_alloc rfl rfl Tryz.zeroValue52 (cs := MetaS.cells MetaS.zero) rfl (g0 rfl) rfl rfl ?_
        intro b728
        exact wa_l (by kernel_rfl) (k_wk (fro (hN7_12 b728 b768 H)) [0, 3, 4, 5, 6, 7, 24, 25, 26, 27, 33] [0, 1, 2] 3 [1, 1, 1, 1, 0, 0, 0] 0 rfl rfl rfl)
    have hN7_0 : (jn (fun (x929 : Bool) => jn (fun (x933 : TenantS × FlashS) => some (r568.2, true, x933.1, x933.2)) fun J932 => bif x929 then ( (tenant_Tenant_keep a0_t (⟨a1_q.Kind, a1_q.N, a1_q.Bytes⟩ : Req) r568.1 fl0).bind fun r936 => bif (!r936.1) then ( some (RespS.zero, false, a0_t, r936.2)) else ( J932 ((⟨a0_t.part, a0_t.cap, (⟨a0_t.c.Name, a0_t.c.Key, a0_t.c.Slot, a0_t.c.Budget, a0_t.c.Quota, a0_t.c.Rights, a0_t.c.First⟩ : Config), r568.1⟩ : TenantS), r936.2))) else ( J932 (a0_t, fl0))) fun J928 => bnd (r568.2.Err == 0) fun b940 => bif b940 then ( J928 (!(decide (r568.1 = a0_t.m)))) else ( J928 false)) = some r → R (Sl E8 A1 c2 a1_q.Bytes :: Sl E8 a0_tg.A3 a0_tg.c3 a0_t.c.Key :: Sl E8 a0_tg.A8 a0_tg.c8 a0_t.c.First :: D0) (AreaT fp0 () a0_tg.b0 a0_t.part :: At a0_tp 0 ([.iface 81 (.pointer (some ⟨a0_tg.b0, 0, none⟩))] ++ (CapS.cells a0_t.cap ++ ([vs a0_t.c.Name, .slice a0_tg.A3 a0_t.c.Key.length a0_tg.c3, vi a0_t.c.Slot, vi a0_t.c.Budget, vi a0_t.c.Quota, vi a0_t.c.Rights, .slice a0_tg.A8 a0_t.c.First.length a0_tg.c8] ++ (MetaS.cells a0_t.m)))) :: At b3 0 [vi a1_q.Kind, vi a1_q.N, .slice A1 a1_q.Bytes.length c2] :: At b4 0 (RespS.cells RespS.zero) :: FlashT fl0g fp0 fl0 :: G0) [(0, (.pointer (some ⟨a0_tp, 0, none⟩))), (3, (.pointer (some ⟨b3, 0, none⟩))), (4, (.pointer (some ⟨b4, 0, none⟩))), (5, (vb false)), (24, (.agg (MetaS.cells a0_t.m).toArray)), (25, (.agg ([vi a1_q.Kind, vi a1_q.N, .slice A1 a1_q.Bytes.length c2]).toArray)), (26, (.pointer (some ⟨a0_tp, 0, none⟩))), (27, (.agg ([vi a1_q.Kind, vi a1_q.N, .slice A1 a1_q.Bytes.length c2]).toArray)), (33, (vi a0_t.c.Quota))] 9 #[true, true, true, true, true, true, true, false, true, true, true, true, true, false, false, false, false, false, false, false, false] := by
      intro H
      refine to ?_
      refine acs [7, 17, 18] rfl (by kernel_rfl) (sl_cons (hG 1 rfl) (sl_cons (hG 2 rfl) (sl_cons (hG 2 rfl) (sl_cons (hG 1 rfl) sl_nil)))) ⟨?_, ?_, ?_, trivial⟩
      · refine k_pk (TenantT fp0 a0_tg a0_tp a0_t) rfl [1, 2] [1, 0] rfl rfl ?_
        refine k_call (c_tenant_Tenant_fact fp0 a0_tp a0_t a0_tg (⟨a1_q.Kind, a1_q.N, a1_q.Bytes⟩ : Req) A1 c2 fl0 fl0g r328 Hc329) Tryz.call50 rfl rfl rfl [0] [0, 2] rfl rfl (g0 rfl) rfl rfl ?_
        rintro _ _ _ ⟨rfl, rfl, rfl⟩
        dsimp only [app]
        refine k_unp 0 rfl ?_
        dsimp only [app, del]
        exact wa_l (by kernel_rfl) (k_wk (fro (hN7_1 H)) [0, 3, 4, 5, 24, 25, 28, 33] [2, 0, 0, 1, 1] 5 [1, 0, 1, 1, 0] 0 rfl rfl rfl)
      · refine k_alloc rfl rfl Tryz.zeroValue52 (cs := MetaS.cells MetaS.zero) rfl (g0 rfl) rfl rfl ?_
        intro b728
        exact wa_l (by kernel_rfl) (k_wk (fro (hN7_11 b728 H)) [0, 3, 4, 5, 6, 24, 25, 26, 27, 33] [0, 1, 2] 3 [1, 1, 1, 1, 0, 0] 0 rfl rfl rfl)
      · refine k_alloc rfl rfl Tryz.zeroValue40 (cs := RespS.cells RespS.zero) rfl (g0 rfl) rfl rfl ?_
        intro b768
        exact wa_l (by kernel_rfl) (k_wk (fro (hN7_13 b768 H)) [0, 3, 4, 5, 7, 24, 25, 26, 27, 33] [0, 1, 2] 3 [1, 1, 1, 1, 0, 0] 0 rfl rfl rfl)
    refine a_run ft [0, 1, 2] rfl (fun _ _ _ _ _ h => h) (by kernel_rfl) rfl ?_
    refine a_l1 3 0 rfl (by kernel_rfl) rfl (ev_ldN (j := 11) rfl rfl Tryz.isAgg52 (sz (MetaS.len _) Tryz.sizeOf52) (sub_skip (n := 1) (sub_skip (n := 3) (sub_skip (n := 7) (sub_all _) rfl rfl) (CapS.len _) rfl) rfl rfl) rfl) (fun _ _ _ h => h) (g0 rfl) rfl rfl ?_
    refine a_l1 4 1 rfl (by kernel_rfl) rfl (ev_ldN (j := 0) (s := [vi a1_q.Kind, vi a1_q.N, .slice A1 a1_q.Bytes.length c2]) rfl rfl Tryz.isAgg44 (sz rfl Tryz.sizeOf44) (sub_all _) rfl) (fun _ _ _ h => h) (g0 rfl) rfl rfl ?_
    refine a_run ft [5] rfl (fun _ _ _ _ _ h => h) (by kernel_rfl) rfl ?_
    refine a_l1 6 2 rfl (by kernel_rfl) rfl (ev_ldN (j := 0) (s := [vi a1_q.Kind, vi a1_q.N, .slice A1 a1_q.Bytes.length c2]) rfl rfl Tryz.isAgg44 (sz rfl Tryz.sizeOf44) (sub_all _) rfl) (fun _ _ _ h => h) (g0 rfl) rfl rfl ?_
    refine a_run ft [8, 9, 10, 11] rfl (fun _ _ _ _ _ h => h) (by kernel_rfl) rfl ?_
    refine a_l1 12 3 rfl (by kernel_rfl) rfl (ev_ld1 (j := 8) rfl rfl Tryz.isAgg3 (sub_skip (n := 1) (sub_skip (n := 3) (sub_head (sub_nth (j := 4) rfl)) (CapS.len _) rfl) rfl rfl) rfl) (fun _ _ _ h => h) (g0 rfl) rfl rfl ?_
    exact wa_l (by kernel_rfl) (k_wk (fro (hN7_0 H)) [0, 3, 4, 5, 24, 25, 26, 27, 33] [2, 0, 1] 3 [1, 0, 1, 0, 0] 0 rfl rfl rfl)

end Go.Proofs.YtpdoioeckiiegaaGreatDoor.Wl
