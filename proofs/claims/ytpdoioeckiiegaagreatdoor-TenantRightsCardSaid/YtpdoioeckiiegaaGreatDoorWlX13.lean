import Derived.Test.YtpdoioeckiiegaaGreatDoorWlW
import Derived.Test.YtpdoioeckiiegaaGreatDoorWlX0
import Derived.Test.YtpdoioeckiiegaaGreatDoorWlX1
import Derived.Test.YtpdoioeckiiegaaGreatDoorWlX3
import Derived.Test.YtpdoioeckiiegaaGreatDoorWlX10
import Derived.Test.YtpdoioeckiiegaaGreatDoorWlX11
import Derived.Test.YtpdoioeckiiegaaGreatDoorWlX12
set_option linter.unusedSimpArgs false
set_option linter.unusedVariables false
set_option maxRecDepth 10000
namespace Go.Proofs.YtpdoioeckiiegaaGreatDoor.Wl
open Go.RowKit Go.Proofs
def tenant_Tenant_keep (a0_t : TenantS) (a1_q : Req) (a2_m : MetaS) (fl0 : FlashS) : Option (Bool × FlashS) :=
jn (fun (x7 : FlashS) =>
(tenant_Tenant_area a0_t).bind fun r89 =>
(meta_Bytes a2_m).bind fun r169 =>
(ring_Put a0_t.part r169 x7).bind fun r209 =>
some ((r209.1 == 0), r209.2)) fun J6 =>
bif (a1_q.Kind == 2) then (
(tenant_Tenant_area a0_t).bind fun r450 =>
(meta_Other a0_t.m).bind fun r650 =>
(slot_Write a0_t.part r650 a1_q.N a0_t.c.Slot a1_q.Bytes fl0).bind fun r1050 =>
bif (r1050.1 != 0) then (
some (false, r1050.2)) else (
J6 r1050.2)) else (
J6 fl0)

theorem c_tenant_Tenant_keep (fp0 : Nat) (a0_tp : Nat) (a0_t : TenantS) (a0_tg : TenantG) (a1_q : Req) (A1 : Option Addr) (c2 : Nat) (a2_m : MetaS) (fl0 : FlashS) (fl0g : FlashG) (r : Bool × FlashS) (H : tenant_Tenant_keep a0_t a1_q a2_m fl0 = some r) : Fn Tryz.prog 51 [(.pointer (some ⟨a0_tp, 0, none⟩)), (.agg ([vi a1_q.Kind, vi a1_q.N, .slice A1 a1_q.Bytes.length c2]).toArray), (.agg (MetaS.cells a2_m).toArray)] [Sl E8 A1 c2 a1_q.Bytes] [TenantT fp0 a0_tg a0_tp a0_t, FlashT fl0g fp0 fl0] (fun v D' G' => ∃ (g1170 : FlashG), v = (vb r.1) ∧ D' = [] ∧ G' = [TenantT fp0 a0_tg a0_tp a0_t, FlashT g1170 fp0 r.2]) := by
  unfold tenant_Tenant_keep at H
  refine fn_of Tryz.func51 rfl Tryz.ntmps51 rfl ?_
  intro w0 D0 G0
  dsimp only [app, initEnv, Nat.zero_add, Nat.reduceAdd]
  refine s_seq ?_
  refine s_reg [0, 1, 2] rfl ?_
  refine oc (k_box rfl rfl rfl (cs := [vi a1_q.Kind, vi a1_q.N, .slice A1 a1_q.Bytes.length c2]) rfl (g0 rfl) rfl rfl ?_)
  intro b3
  refine oc (k_box rfl rfl rfl (cs := MetaS.cells a2_m) rfl (g0 rfl) rfl rfl ?_)
  intro b4
  refine o_run ft [2] rfl rfl ?_
  refine o_nil ?_
  refine q_then ?_
  refine s_seq ?_
  refine s_seq ?_
  refine s_reg [0, 1, 2] rfl ?_
  refine o_run ft [0] rfl rfl ?_
  refine o_ld (hG 1 rfl) rfl (ev_ld1 (j := 0) rfl rfl Tryz.isAgg3 (sub_nth (j := 0) rfl) rfl) (g0 rfl) rfl rfl ?_
  refine o_run ft [2] rfl rfl ?_
  refine o_nil ?_
  refine q_then ?_
  refine q_join (fun (x7 : FlashS) (y8 : FlashG) => ⟨Sl E8 A1 c2 a1_q.Bytes :: D0, At b4 0 (MetaS.cells a2_m) :: At b3 0 [vi a1_q.Kind, vi a1_q.N, .slice A1 a1_q.Bytes.length c2] :: TenantT fp0 a0_tg a0_tp a0_t :: FlashT y8 fp0 x7 :: G0, [(0, (.pointer (some ⟨a0_tp, 0, none⟩))), (5, (.pointer (some ⟨b4, 0, none⟩)))]⟩) H ?_ ?_
  · intro x7 y8 H
    dsimp only
    refine q_then ?_
    refine s_seq ?_
    obtain ⟨r89, Hc90, H⟩ := bind_some' H
    obtain ⟨r169, Hc170, H⟩ := bind_some' H
    obtain ⟨r209, Hc210, H⟩ := bind_some' H
    refine s_draw mixed [] ?_
    refine wa_loc fun R to fro => to ?_
    have hN8_4 : ∀ (A171 : Option Addr), ∀ (c172 : Nat), ∀ (g211 : FlashG), (some ((r209.1 == 0), r209.2)) = some r → R (Sl E8 A1 c2 a1_q.Bytes :: Sl E8 A171 c172 r169 :: Sl E8 a0_tg.A3 a0_tg.c3 a0_t.c.Key :: Sl E8 a0_tg.A8 a0_tg.c8 a0_t.c.First :: D0) (AreaT fp0 () a0_tg.b0 a0_t.part :: At a0_tp 0 ([.iface 81 (.pointer (some ⟨a0_tg.b0, 0, none⟩))] ++ (CapS.cells a0_t.cap ++ ([vs a0_t.c.Name, .slice a0_tg.A3 a0_t.c.Key.length a0_tg.c3, vi a0_t.c.Slot, vi a0_t.c.Budget, vi a0_t.c.Quota, vi a0_t.c.Rights, .slice a0_tg.A8 a0_t.c.First.length a0_tg.c8] ++ (MetaS.cells a0_t.m)))) :: At b3 0 [vi a1_q.Kind, vi a1_q.N, .slice A1 a1_q.Bytes.length c2] :: At b4 0 (MetaS.cells a2_m) :: FlashT g211 fp0 r209.2 :: Spare A171 r169.length c172 1 :: G0) [(6, (vb (r209.1 == 0)))] 0 #[true, true, true, true, true, true, true] := by
      intro A171 c172 g211 H
      refine to ?_
      refine a_done (by kernel_rfl) sl_nil ?_
      refine q_then ?_
      refine s_ret ?_
      refine k_pk (TenantT fp0 a0_tg a0_tp a0_t) rfl [2, 3] [1, 0] rfl rfl ?_
      cases H
      exact q_end (rs_1 Tryz.results51 (rv_tmp rfl)) ⟨g211, rfl, rfl, rfl⟩ [] rfl 4 rfl [0, 2] rfl 3 rfl
    have hN8_3 : ∀ (A171 : Option Addr), ∀ (c172 : Nat), (some ((r209.1 == 0), r209.2)) = some r → R (Sl E8 A1 c2 a1_q.Bytes :: Sl E8 A171 c172 r169 :: D0) (At b3 0 [vi a1_q.Kind, vi a1_q.N, .slice A1 a1_q.Bytes.length c2] :: At b4 0 (MetaS.cells a2_m) :: FlashT y8 fp0 x7 :: Spare A171 r169.length c172 1 :: TenantT fp0 a0_tg a0_tp a0_t :: G0) [(29, (.pointer (some ⟨a0_tg.b0, 0, none⟩))), (31, (.slice A171 r169.length c172))] 3 #[true, true, true, true, false, false, false] := by
      intro A171 c172 H
      refine to ?_
      refine acs [4] rfl (by kernel_rfl) sl_nil ⟨?_, trivial⟩
      · refine k_unp 4 rfl ?_
        dsimp only [app, del]
        refine k_call (c_ring_Put fp0 a0_tg.b0 a0_t.part r169 A171 c172 x7 y8 r209 Hc210) Tryz.call41 rfl rfl rfl [3] [1, 3] rfl rfl (g0 rfl) rfl rfl ?_
        rintro _ _ _ ⟨g211, rfl, rfl, rfl⟩
        dsimp only [app]
        refine a_run ft [5, 6] rfl (fun _ _ _ _ _ h => h) (by kernel_rfl) rfl ?_
        exact wa_l (by kernel_rfl) (k_wk (fro (hN8_4 A171 c172 g211 H)) [6] [2, 3, 0, 1] 4 [0, 1, 1, 1, 0, 0] 0 rfl rfl rfl)
    have hN8_2 : (some ((r209.1 == 0), r209.2)) = some r → R (Sl E8 A1 c2 a1_q.Bytes :: D0) (At b3 0 [vi a1_q.Kind, vi a1_q.N, .slice A1 a1_q.Bytes.length c2] :: At b4 0 (MetaS.cells a2_m) :: FlashT y8 fp0 x7 :: TenantT fp0 a0_tg a0_tp a0_t :: G0) [(29, (.pointer (some ⟨a0_tg.b0, 0, none⟩))), (30, (.agg (MetaS.cells a2_m).toArray))] 4 #[true, true, true, false, false, false, false] := by
      intro H
      refine to ?_
      refine acs [3] rfl (by kernel_rfl) sl_nil ⟨?_, trivial⟩
      · refine k_call (c_meta_Bytes a2_m r169 Hc170) Tryz.call42 rfl rfl rfl [] [] rfl rfl (g0 rfl) rfl rfl ?_
        rintro _ _ _ ⟨A171, c172, rfl, rfl, rfl⟩
        dsimp only [app]
        exact wa_l (by kernel_rfl) (k_wk (fro (hN8_3 A171 c172 H)) [29, 31] [1, 0] 2 [1, 1, 1, 0, 0] 0 rfl rfl rfl)
    have hN8_1 : (some ((r209.1 == 0), r209.2)) = some r → R (Sl E8 A1 c2 a1_q.Bytes :: D0) (At b3 0 [vi a1_q.Kind, vi a1_q.N, .slice A1 a1_q.Bytes.length c2] :: At b4 0 (MetaS.cells a2_m) :: FlashT y8 fp0 x7 :: TenantT fp0 a0_tg a0_tp a0_t :: G0) [(5, (.pointer (some ⟨b4, 0, none⟩))), (29, (.pointer (some ⟨a0_tg.b0, 0, none⟩)))] 5 #[true, true, false, false, false, false, false] := by
      intro H
      refine to ?_
      refine acs [2] rfl (by kernel_rfl) sl_nil ⟨?_, trivial⟩
      · refine k_ld (hG 1 rfl) rfl (ev_ldN (j := 0) rfl rfl Tryz.isAgg52 (sz (MetaS.len _) Tryz.sizeOf52) (sub_all _) rfl) (g0 rfl) rfl rfl ?_
        exact wa_l (by kernel_rfl) (k_wk (fro (hN8_2 H)) [29, 30] [0] 1 [0, 0, 0, 0] 0 rfl rfl rfl)
    have hN8_5 : (some ((r209.1 == 0), r209.2)) = some r → R (Sl E8 A1 c2 a1_q.Bytes :: D0) (At b3 0 [vi a1_q.Kind, vi a1_q.N, .slice A1 a1_q.Bytes.length c2] :: At b4 0 (MetaS.cells a2_m) :: FlashT y8 fp0 x7 :: TenantT fp0 a0_tg a0_tp a0_t :: G0) [(28, (.pointer (some ⟨a0_tp, 0, none⟩))), (30, (.agg (MetaS.cells a2_m).toArray))] 5 #[true, false, true, false, false, false, false] := by
      intro H
      refine to ?_
      refine acs [1] rfl (by kernel_rfl) sl_nil ⟨?_, trivial⟩
      · refine k_call (c_tenant_Tenant_area fp0 a0_tp a0_t a0_tg r89 Hc90) Tryz.call56 rfl rfl rfl [] [3] rfl rfl (g0 rfl) rfl rfl ?_
        rintro _ _ _ ⟨rfl, rfl, rfl⟩
        dsimp only [app]
        exact wa_l (by kernel_rfl) (k_wk (fro (hN8_2 H)) [29, 30] [0] 1 [1, 1, 1, 0] 0 rfl rfl rfl)
    have hN8_0 : (some ((r209.1 == 0), r209.2)) = some r → R (Sl E8 A1 c2 a1_q.Bytes :: D0) (At b3 0 [vi a1_q.Kind, vi a1_q.N, .slice A1 a1_q.Bytes.length c2] :: At b4 0 (MetaS.cells a2_m) :: FlashT y8 fp0 x7 :: TenantT fp0 a0_tg a0_tp a0_t :: G0) [(5, (.pointer (some ⟨b4, 0, none⟩))), (28, (.pointer (some ⟨a0_tp, 0, none⟩)))] 6 #[true, false, false, false, false, false, false] := by
      intro H
      refine to ?_
      refine acs [1, 2] rfl (by kernel_rfl) sl_nil ⟨?_, ?_, trivial⟩
      · refine k_call (c_tenant_Tenant_area fp0 a0_tp a0_t a0_tg r89 Hc90) Tryz.call56 rfl rfl rfl [] [3] rfl rfl (g0 rfl) rfl rfl ?_
        rintro _ _ _ ⟨rfl, rfl, rfl⟩
        dsimp only [app]
        exact wa_l (by kernel_rfl) (k_wk (fro (hN8_1 H)) [5, 29] [0] 1 [1, 1, 1, 0] 0 rfl rfl rfl)
      · refine k_ld (hG 1 rfl) rfl (ev_ldN (j := 0) rfl rfl Tryz.isAgg52 (sz (MetaS.len _) Tryz.sizeOf52) (sub_all _) rfl) (g0 rfl) rfl rfl ?_
        exact wa_l (by kernel_rfl) (k_wk (fro (hN8_5 H)) [28, 30] [0] 1 [0, 0, 0, 0] 0 rfl rfl rfl)
    refine a_run ft [0] rfl (fun _ _ _ _ _ h => h) (by kernel_rfl) rfl ?_
    exact wa_l (by kernel_rfl) (k_wk (fro (hN8_0 H)) [5, 28] [0] 1 [1, 0, 1, 0] 0 rfl rfl rfl)
  · intro J6 J6h H
    refine s_cond rfl ?_ ?_
    · intro hb369
      have H := cnd_t H hb369
      refine s_seq ?_
      refine k_unp 2 rfl ?_
      dsimp only [app, del]
      obtain ⟨r450, Hc451, H⟩ := bind_some' H
      obtain ⟨r650, Hc651, H⟩ := bind_some' H
      obtain ⟨r1050, Hc1051, H⟩ := bind_some' H
      refine s_draw mixed [(8, [16], Has b3 0 [vi a1_q.Kind, vi a1_q.N, .slice A1 a1_q.Bytes.length c2]), (13, [16], Has a0_tp 0 ([.iface 81 (.pointer (some ⟨a0_tg.b0, 0, none⟩))] ++ (CapS.cells a0_t.cap ++ ([vs a0_t.c.Name, .slice a0_tg.A3 a0_t.c.Key.length a0_tg.c3, vi a0_t.c.Slot, vi a0_t.c.Budget, vi a0_t.c.Quota, vi a0_t.c.Rights, .slice a0_tg.A8 a0_t.c.First.length a0_tg.c8] ++ (MetaS.cells a0_t.m))))), (15, [16], Has b3 0 [vi a1_q.Kind, vi a1_q.N, .slice A1 a1_q.Bytes.length c2])] ?_
      refine wa_loc fun R to fro => to ?_
      have hN369_4 : ∀ (g1052 : FlashG), (bif (r1050.1 != 0) then ( some (false, r1050.2)) else ( J6 r1050.2)) = some r → R (Sl E8 A1 c2 a1_q.Bytes :: Sl E8 a0_tg.A3 a0_tg.c3 a0_t.c.Key :: Sl E8 a0_tg.A3 a0_tg.c3 a0_t.c.Key :: Sl E8 a0_tg.A8 a0_tg.c8 a0_t.c.First :: Sl E8 a0_tg.A8 a0_tg.c8 a0_t.c.First :: D0) (AreaT fp0 () a0_tg.b0 a0_t.part :: At a0_tp 0 ([.iface 81 (.pointer (some ⟨a0_tg.b0, 0, none⟩))] ++ (CapS.cells a0_t.cap ++ ([vs a0_t.c.Name, .slice a0_tg.A3 a0_t.c.Key.length a0_tg.c3, vi a0_t.c.Slot, vi a0_t.c.Budget, vi a0_t.c.Quota, vi a0_t.c.Rights, .slice a0_tg.A8 a0_t.c.First.length a0_tg.c8] ++ (MetaS.cells a0_t.m)))) :: At b3 0 [vi a1_q.Kind, vi a1_q.N, .slice A1 a1_q.Bytes.length c2] :: At b4 0 (MetaS.cells a2_m) :: FlashT g1052 fp0 r1050.2 :: G0) [(0, (.pointer (some ⟨a0_tp, 0, none⟩))), (5, (.pointer (some ⟨b4, 0, none⟩))), (6, (vb false)), (27, (vb (r1050.1 != 0)))] 0 #[true, true, true, true, true, true, true, true, true, true, true, true, true, true, true, true, true, true] := by
        intro g1052 H
        refine to ?_
        refine a_done (by kernel_rfl) (sl_end (by kernel_rfl) (sl_end (by kernel_rfl) (sl_end (by kernel_rfl) sl_nil))) ?_
        refine q_then ?_
        refine s_cond rfl ?_ ?_
        · intro hb1170
          have H := cnd_t H hb1170
          refine s_seq ?_
          refine s_reg [0] rfl ?_
          refine o_run ft [0] rfl rfl ?_
          refine o_nil ?_
          refine q_then ?_
          refine s_ret ?_
          refine q_then_r ?_
          refine k_pk (TenantT fp0 a0_tg a0_tp a0_t) rfl [1, 3] [1, 0] rfl rfl ?_
          cases H
          exact q_end (rs_1 Tryz.results51 (rv_tmp rfl)) ⟨g1052, rfl, rfl, rfl⟩ [] rfl 5 rfl [0, 2] rfl 2 rfl
        · intro hb1170
          have H := cnd_f H hb1170
          refine s_skip ?_
          refine k_pk (TenantT fp0 a0_tg a0_tp a0_t) rfl [1, 3] [1, 0] rfl rfl ?_
          exact k_wk (J6h r1050.2 g1052 H) [0, 5] [0] 5 [2, 1, 0, 0] 0 rfl rfl rfl
      have hN369_3 : (bif (r1050.1 != 0) then ( some (false, r1050.2)) else ( J6 r1050.2)) = some r → R (Sl E8 A1 c2 a1_q.Bytes :: Sl E8 a0_tg.A3 a0_tg.c3 a0_t.c.Key :: Sl E8 a0_tg.A3 a0_tg.c3 a0_t.c.Key :: Sl E8 a0_tg.A8 a0_tg.c8 a0_t.c.First :: Sl E8 a0_tg.A8 a0_tg.c8 a0_t.c.First :: D0) (AreaT fp0 () a0_tg.b0 a0_t.part :: At a0_tp 0 ([.iface 81 (.pointer (some ⟨a0_tg.b0, 0, none⟩))] ++ (CapS.cells a0_t.cap ++ ([vs a0_t.c.Name, .slice a0_tg.A3 a0_t.c.Key.length a0_tg.c3, vi a0_t.c.Slot, vi a0_t.c.Budget, vi a0_t.c.Quota, vi a0_t.c.Rights, .slice a0_tg.A8 a0_t.c.First.length a0_tg.c8] ++ (MetaS.cells a0_t.m)))) :: At b3 0 [vi a1_q.Kind, vi a1_q.N, .slice A1 a1_q.Bytes.length c2] :: At b4 0 (MetaS.cells a2_m) :: FlashT fl0g fp0 fl0 :: G0) [(0, (.pointer (some ⟨a0_tp, 0, none⟩))), (5, (.pointer (some ⟨b4, 0, none⟩))), (6, (vb false)), (11, (.pointer (some ⟨a0_tg.b0, 0, none⟩))), (16, (vi r650)), (18, (vi a1_q.N)), (23, (vi a0_t.c.Slot)), (25, (.slice A1 a1_q.Bytes.length c2))] 2 #[true, true, true, true, true, true, true, true, true, true, true, true, true, true, true, true, false, false] := by
        intro H
        refine to ?_
        refine acs [16] rfl (by kernel_rfl) (sl_cons (hG 2 rfl) (sl_cons (hG 1 rfl) (sl_cons (hG 2 rfl) sl_nil))) ⟨?_, trivial⟩
        · refine k_call (c_slot_Write fp0 a0_tg.b0 a0_t.part r650 a1_q.N a0_t.c.Slot a1_q.Bytes A1 c2 fl0 fl0g r1050 Hc1051) Tryz.call38 rfl rfl rfl [0] [0, 3] rfl rfl (g0 rfl) rfl rfl ?_
          rintro _ _ _ ⟨g1052, rfl, rfl, rfl⟩
          dsimp only [app]
          refine a_run ft [17] rfl (fun _ _ _ _ _ h => h) (by kernel_rfl) rfl ?_
          exact wa_l (by kernel_rfl) (k_wk (fro (hN369_4 g1052 H)) [0, 5, 6, 27] [0, 1, 1, 3, 3] 5 [0, 1, 1, 1, 0] 0 rfl rfl rfl)
      have hN369_2 : (bif (r1050.1 != 0) then ( some (false, r1050.2)) else ( J6 r1050.2)) = some r → R (Sl E8 A1 c2 a1_q.Bytes :: Sl E8 a0_tg.A3 a0_tg.c3 a0_t.c.Key :: Sl E8 a0_tg.A3 a0_tg.c3 a0_t.c.Key :: Sl E8 a0_tg.A8 a0_tg.c8 a0_t.c.First :: Sl E8 a0_tg.A8 a0_tg.c8 a0_t.c.First :: D0) (AreaT fp0 () a0_tg.b0 a0_t.part :: At a0_tp 0 ([.iface 81 (.pointer (some ⟨a0_tg.b0, 0, none⟩))] ++ (CapS.cells a0_t.cap ++ ([vs a0_t.c.Name, .slice a0_tg.A3 a0_t.c.Key.length a0_tg.c3, vi a0_t.c.Slot, vi a0_t.c.Budget, vi a0_t.c.Quota, vi a0_t.c.Rights, .slice a0_tg.A8 a0_t.c.First.length a0_tg.c8] ++ (MetaS.cells a0_t.m)))) :: At b3 0 [vi a1_q.Kind, vi a1_q.N, .slice A1 a1_q.Bytes.length c2] :: At b4 0 (MetaS.cells a2_m) :: FlashT fl0g fp0 fl0 :: G0) [(0, (.pointer (some ⟨a0_tp, 0, none⟩))), (5, (.pointer (some ⟨b4, 0, none⟩))), (6, (vb false)), (11, (.pointer (some ⟨a0_tg.b0, 0, none⟩))), (15, (.agg (MetaS.cells a0_t.m).toArray)), (18, (vi a1_q.N)), (23, (vi a0_t.c.Slot)), (25, (.slice A1 a1_q.Bytes.length c2))] 3 #[true, true, true, true, true, true, false, true, true, true, true, true, true, true, true, true, false, false] := by
        intro H
        refine to ?_
        refine acs [6] rfl (by kernel_rfl) (sl_cons (hG 2 rfl) (sl_cons (hG 1 rfl) (sl_cons (hG 2 rfl) sl_nil))) ⟨?_, trivial⟩
        · refine k_call (c_meta_Other a0_t.m r650 Hc651) Tryz.call115 rfl rfl rfl [] [] rfl rfl (g0 rfl) rfl rfl ?_
          rintro _ _ _ ⟨rfl, rfl, rfl⟩
          dsimp only [app]
          exact wa_l (by kernel_rfl) (k_wk (fro (hN369_3 H)) [0, 5, 6, 11, 16, 18, 23, 25] [0, 1, 1, 3, 3] 5 [0, 0, 0, 0, 0] 0 rfl rfl rfl)
      have hN369_1 : (bif (r1050.1 != 0) then ( some (false, r1050.2)) else ( J6 r1050.2)) = some r → R (Sl E8 A1 c2 a1_q.Bytes :: Sl E8 a0_tg.A3 a0_tg.c3 a0_t.c.Key :: Sl E8 a0_tg.A3 a0_tg.c3 a0_t.c.Key :: Sl E8 a0_tg.A8 a0_tg.c8 a0_t.c.First :: Sl E8 a0_tg.A8 a0_tg.c8 a0_t.c.First :: D0) (AreaT fp0 () a0_tg.b0 a0_t.part :: At a0_tp 0 ([.iface 81 (.pointer (some ⟨a0_tg.b0, 0, none⟩))] ++ (CapS.cells a0_t.cap ++ ([vs a0_t.c.Name, .slice a0_tg.A3 a0_t.c.Key.length a0_tg.c3, vi a0_t.c.Slot, vi a0_t.c.Budget, vi a0_t.c.Quota, vi a0_t.c.Rights, .slice a0_tg.A8 a0_t.c.First.length a0_tg.c8] ++ (MetaS.cells a0_t.m)))) :: At b3 0 [vi a1_q.Kind, vi a1_q.N, .slice A1 a1_q.Bytes.length c2] :: At b4 0 (MetaS.cells a2_m) :: FlashT fl0g fp0 fl0 :: G0) [(0, (.pointer (some ⟨a0_tp, 0, none⟩))), (5, (.pointer (some ⟨b4, 0, none⟩))), (6, (vb false)), (11, (.pointer (some ⟨a0_tg.b0, 0, none⟩))), (14, (.pointer (some ⟨a0_tp, 11, none⟩))), (18, (vi a1_q.N)), (23, (vi a0_t.c.Slot)), (25, (.slice A1 a1_q.Bytes.length c2))] 4 #[true, true, true, true, true, false, false, true, true, true, true, true, true, true, true, true, false, false] := by
        intro H
        refine to ?_
        refine acs [5] rfl (by kernel_rfl) (sl_cons (hG 2 rfl) (sl_cons (hG 1 rfl) (sl_cons (hG 2 rfl) sl_nil))) ⟨?_, trivial⟩
        · refine k_ld (hG 1 rfl) rfl (ev_ldN (j := 11) rfl rfl Tryz.isAgg52 (sz (MetaS.len _) Tryz.sizeOf52) (sub_skip (n := 1) (sub_skip (n := 3) (sub_skip (n := 7) (sub_all _) rfl rfl) (CapS.len _) rfl) rfl rfl) rfl) (g0 rfl) rfl rfl ?_
          exact wa_l (by kernel_rfl) (k_wk (fro (hN369_2 H)) [0, 5, 6, 11, 15, 18, 23, 25] [0, 1, 1, 3, 3] 5 [0, 0, 0, 0, 0] 0 rfl rfl rfl)
      have hN369_5 : (bif (r1050.1 != 0) then ( some (false, r1050.2)) else ( J6 r1050.2)) = some r → R (Sl E8 A1 c2 a1_q.Bytes :: Sl E8 a0_tg.A3 a0_tg.c3 a0_t.c.Key :: Sl E8 a0_tg.A8 a0_tg.c8 a0_t.c.First :: D0) (AreaT fp0 () a0_tg.b0 a0_t.part :: At a0_tp 0 ([.iface 81 (.pointer (some ⟨a0_tg.b0, 0, none⟩))] ++ (CapS.cells a0_t.cap ++ ([vs a0_t.c.Name, .slice a0_tg.A3 a0_t.c.Key.length a0_tg.c3, vi a0_t.c.Slot, vi a0_t.c.Budget, vi a0_t.c.Quota, vi a0_t.c.Rights, .slice a0_tg.A8 a0_t.c.First.length a0_tg.c8] ++ (MetaS.cells a0_t.m)))) :: At b3 0 [vi a1_q.Kind, vi a1_q.N, .slice A1 a1_q.Bytes.length c2] :: At b4 0 (MetaS.cells a2_m) :: FlashT fl0g fp0 fl0 :: G0) [(0, (.pointer (some ⟨a0_tp, 0, none⟩))), (5, (.pointer (some ⟨b4, 0, none⟩))), (6, (vb false)), (10, (.pointer (some ⟨a0_tp, 0, none⟩))), (15, (.agg (MetaS.cells a0_t.m).toArray)), (18, (vi a1_q.N)), (23, (vi a0_t.c.Slot)), (25, (.slice A1 a1_q.Bytes.length c2))] 4 #[true, false, true, true, true, true, false, true, true, true, true, true, true, true, true, true, false, false] := by
        intro H
        refine to ?_
        refine acs [1] rfl (by kernel_rfl) (sl_cons (hG 2 rfl) (sl_cons (hG 1 rfl) (sl_cons (hG 2 rfl) sl_nil))) ⟨?_, trivial⟩
        · refine k_pk (TenantT fp0 a0_tg a0_tp a0_t) rfl [1, 2] [1, 0] rfl rfl ?_
          refine k_call (c_tenant_Tenant_area fp0 a0_tp a0_t a0_tg r450 Hc451) Tryz.call56 rfl rfl rfl [] [0] rfl rfl (g0 rfl) rfl rfl ?_
          rintro _ _ _ ⟨rfl, rfl, rfl⟩
          dsimp only [app]
          refine k_unp 0 rfl ?_
          dsimp only [app, del]
          exact wa_l (by kernel_rfl) (k_wk (fro (hN369_2 H)) [0, 5, 6, 11, 15, 18, 23, 25] [2, 0, 0, 1, 1] 5 [1, 0, 0, 0, 0] 0 rfl rfl rfl)
      have hN369_0 : (bif (r1050.1 != 0) then ( some (false, r1050.2)) else ( J6 r1050.2)) = some r → R (Sl E8 A1 c2 a1_q.Bytes :: Sl E8 a0_tg.A3 a0_tg.c3 a0_t.c.Key :: Sl E8 a0_tg.A8 a0_tg.c8 a0_t.c.First :: D0) (AreaT fp0 () a0_tg.b0 a0_t.part :: At a0_tp 0 ([.iface 81 (.pointer (some ⟨a0_tg.b0, 0, none⟩))] ++ (CapS.cells a0_t.cap ++ ([vs a0_t.c.Name, .slice a0_tg.A3 a0_t.c.Key.length a0_tg.c3, vi a0_t.c.Slot, vi a0_t.c.Budget, vi a0_t.c.Quota, vi a0_t.c.Rights, .slice a0_tg.A8 a0_t.c.First.length a0_tg.c8] ++ (MetaS.cells a0_t.m)))) :: At b3 0 [vi a1_q.Kind, vi a1_q.N, .slice A1 a1_q.Bytes.length c2] :: At b4 0 (MetaS.cells a2_m) :: FlashT fl0g fp0 fl0 :: G0) [(0, (.pointer (some ⟨a0_tp, 0, none⟩))), (5, (.pointer (some ⟨b4, 0, none⟩))), (6, (vb false)), (10, (.pointer (some ⟨a0_tp, 0, none⟩))), (14, (.pointer (some ⟨a0_tp, 11, none⟩))), (18, (vi a1_q.N)), (23, (vi a0_t.c.Slot)), (25, (.slice A1 a1_q.Bytes.length c2))] 5 #[true, false, true, true, true, false, false, true, true, true, true, true, true, true, true, true, false, false] := by
        intro H
        refine to ?_
        refine acs [1, 5] rfl (by kernel_rfl) (sl_cons (hG 2 rfl) (sl_cons (hG 1 rfl) (sl_cons (hG 2 rfl) sl_nil))) ⟨?_, ?_, trivial⟩
        · refine k_pk (TenantT fp0 a0_tg a0_tp a0_t) rfl [1, 2] [1, 0] rfl rfl ?_
          refine k_call (c_tenant_Tenant_area fp0 a0_tp a0_t a0_tg r450 Hc451) Tryz.call56 rfl rfl rfl [] [0] rfl rfl (g0 rfl) rfl rfl ?_
          rintro _ _ _ ⟨rfl, rfl, rfl⟩
          dsimp only [app]
          refine k_unp 0 rfl ?_
          dsimp only [app, del]
          exact wa_l (by kernel_rfl) (k_wk (fro (hN369_1 H)) [0, 5, 6, 11, 14, 18, 23, 25] [2, 0, 0, 1, 1] 5 [1, 0, 0, 0, 0] 0 rfl rfl rfl)
        · refine k_ld (hG 1 rfl) rfl (ev_ldN (j := 11) rfl rfl Tryz.isAgg52 (sz (MetaS.len _) Tryz.sizeOf52) (sub_skip (n := 1) (sub_skip (n := 3) (sub_skip (n := 7) (sub_all _) rfl rfl) (CapS.len _) rfl) rfl rfl) rfl) (g0 rfl) rfl rfl ?_
          exact wa_l (by kernel_rfl) (k_wk (fro (hN369_5 H)) [0, 5, 6, 10, 15, 18, 23, 25] [0, 1, 2] 3 [0, 0, 0, 0, 0] 0 rfl rfl rfl)
      refine a_run ft [0, 2, 3, 4, 7] rfl (fun _ _ _ _ _ h => h) (by kernel_rfl) rfl ?_
      refine a_l1 8 0 rfl (by kernel_rfl) rfl (ev_ld1 (j := 1) rfl rfl Tryz.isAgg3 (sub_nth (j := 1) rfl) rfl) (fun _ _ _ h => h) (g0 rfl) rfl rfl ?_
      refine a_run ft [9, 10, 11, 12] rfl (fun _ _ _ _ _ h => h) (by kernel_rfl) rfl ?_
      refine a_l1 13 1 rfl (by kernel_rfl) rfl (ev_ld1 (j := 6) rfl rfl Tryz.isAgg3 (sub_skip (n := 1) (sub_skip (n := 3) (sub_head (sub_nth (j := 2) rfl)) (CapS.len _) rfl) rfl rfl) rfl) (fun _ _ _ h => h) (g0 rfl) rfl rfl ?_
      refine a_run ft [14] rfl (fun _ _ _ _ _ h => h) (by kernel_rfl) rfl ?_
      refine a_l1 15 2 rfl (by kernel_rfl) rfl (ev_ld1 (j := 2) rfl rfl Tryz.isAgg22 (sub_nth (j := 2) rfl) rfl) (fun _ _ _ h => h) (g0 rfl) rfl rfl ?_
      exact wa_l (by kernel_rfl) (k_wk (fro (hN369_0 H)) [0, 5, 6, 10, 14, 18, 23, 25] [2, 0, 1] 3 [1, 0, 1, 0, 0] 0 rfl rfl rfl)
    · intro hb369
      have H := cnd_f H hb369
      refine s_skip ?_
      exact k_wk (J6h fl0 fl0g H) [0, 5] [0] 1 [0, 0, 0, 0] 0 rfl rfl rfl

def sha_Stream_Write_l0 (J10 : (List UInt8 × Arr UInt32 8) → Option StreamS) : Nat → (List UInt8 × Arr UInt32 8) → Option StreamS
  | 0, _ => none
  | k17 + 1, s17 =>
    bif (decide ((s17.1.length : Int) ≥ 64)) then (
    chk (0 ≤ (0 : Int) ∧ (0 : Int) ≤ (64 : Int) ∧ (64 : Int) ≤ (s17.1.length : Int)) <|
    (sha_mix s17.2 (slc s17.1 (0 : Int) (64 : Int))).bind fun r23 =>
    chk (0 ≤ (64 : Int) ∧ (64 : Int) ≤ (s17.1.length : Int) ∧ (s17.1.length : Int) ≤ (s17.1.length : Int)) <|
    sha_Stream_Write_l0 J10 k17 ((slc s17.1 (64 : Int) (s17.1.length : Int)), r23)) else (
    J10 (s17.1, s17.2))

def sha_Stream_Write (a0_s : StreamS) (a1_b : List UInt8) : Option StreamS :=
(slices_Concat ([a0_s.rest, a1_b] : List (List UInt8))).bind fun r6 =>
jn (fun (x11 : List UInt8 × Arr UInt32 8) =>
(slices_Clone x11.1).bind fun r13 =>
some (⟨x11.2, (a0_s.count + (UInt64.ofInt (a1_b.length : Int))), r13⟩ : StreamS)) fun J10 =>
sha_Stream_Write_l0 J10 Fuel (r6, a0_s.h)

theorem c_sha_Stream_Write (a0_sp : Nat) (a0_s : StreamS) (A1 : Option Addr) (c2 : Nat) (a1_b : List UInt8) (A3 : Option Addr) (c4 : Nat) (r : StreamS) (H : sha_Stream_Write a0_s a1_b = some r) : Fn Tryz.prog 82 [(.pointer (some ⟨a0_sp, 0, none⟩)), (.slice A3 a1_b.length c4)] [Sl E8 A3 c4 a1_b, Sl E8 A1 c2 a0_s.rest] [At a0_sp 0 (a0_s.h.l.flatMap E32 ++ ([v64 a0_s.count, .slice A1 a0_s.rest.length c2]))] (fun v D' G' => ∃ (A28 : Option Addr) (c29 : Nat), v = (.tuple #[]) ∧ D' = [Sl E8 A28 c29 r.rest] ∧ G' = [At a0_sp 0 (r.h.l.flatMap E32 ++ ([v64 r.count, .slice A28 r.rest.length c29]))]) := by
  unfold sha_Stream_Write at H
  refine fn_of Tryz.func82 rfl Tryz.ntmps82 rfl ?_
  intro w0 D0 G0
  dsimp only [app, initEnv, Nat.zero_add, Nat.reduceAdd]
  refine s_seq ?_
  refine s_seq ?_
  refine s_reg [0, 1] rfl ?_
  refine o_run ft [0] rfl rfl ?_
  refine o_pu rfl (ev_bin rfl rfl rfl rfl (eql_ptr_pn Tryz.runUnderlying137)) (g0 rfl) rfl rfl ?_
  refine o_nil ?_
  refine q_then ?_
  refine s_cond_f rfl ?_
  refine s_skip ?_
  refine q_then ?_
  refine s_seq ?_
  refine s_reg [0, 1, 2, 3, 4, 5, 6, 7, 8, 9, 10] rfl ?_
  refine o_run ft [0, 1, 2] rfl rfl ?_
  refine o_ld (hG 0 rfl) rfl (ev_ld1 (j := 8) rfl rfl Tryz.isAgg178 (sub_skip (n := 8) (sub_nth (j := 0) rfl) (arr_len E32_len _ rfl) rfl) rfl) (g0 rfl) rfl rfl ?_
  refine o_run ft [4] rfl rfl ?_
  refine o_pu rfl (ev_len_slice rfl rfl Tryz.runUnderlying22) (g0 rfl) rfl rfl ?_
  refine o_pu rfl (ev_conv rfl rfl (conv_i_u64 _ Tryz.runUnderlying3 Tryz.runUnderlying178)) (g0 rfl) rfl rfl ?_
  refine o_pu rfl (ev_bin rfl rfl rfl rfl (add_64 _ _)) (g0 rfl) rfl rfl ?_
  refine o_run ft [8, 9] rfl rfl ?_
  refine oc (k_st (j := 8) rfl rfl rfl rfl (vs := [v64 (a0_s.count + (UInt64.ofInt (a1_b.length : Int)))]) rfl (sz rfl Tryz.sizeOf178) rfl 0 rfl (spl_skip (n := 8) (spl_lit (j := 0) (cs' := [v64 (a0_s.count + (UInt64.ofInt (a1_b.length : Int))), .slice A1 a0_s.rest.length c2]) rfl rfl) (arr_len E32_len _ rfl) rfl) rfl (g0 rfl) rfl ?_)
  refine o_nil ?_
  refine q_then ?_
  refine s_seq ?_
  refine s_reg [0, 1, 2, 3, 4, 5, 6, 7] rfl ?_
  refine o_run ft [0, 1, 2] rfl rfl ?_
  refine o_ld (hG 0 rfl) rfl (ev_ld1 (j := 9) rfl rfl Tryz.isAgg22 (sub_skip (n := 8) (sub_nth (j := 1) rfl) (arr_len E32_len _ rfl) rfl) rfl) (g0 rfl) rfl rfl ?_
  refine o_run ft [4] rfl rfl ?_
  refine oc (k_buildSlice (f := EV) [.slice A1 a0_s.rest.length c2, .slice A3 a1_b.length c4] rfl rfl rfl rfl Tryz.runUnderlying231 Tryz.sizeOf22 Tryz.zeroValue22 rfl rfl (fill_all rfl rfl (by simp) rfl rfl) (g0 rfl) rfl rfl ?_)
  intro b5
  refine k_sls [(A1, c2, a0_s.rest), (A3, c4, a1_b)] 0 rfl [2, 1] rfl ?_
  obtain ⟨r6, Hc7, H⟩ := bind_some' H
  refine oc (k_call (c_slices_Concat ([a0_s.rest, a1_b] : List (List UInt8)) (some ⟨b5, 0, none⟩) 2 r6 Hc7) Tryz.call148 rfl rfl rfl [0] [] rfl rfl (g0 rfl) rfl rfl ?_)
  rintro _ _ _ ⟨A8, c9, rfl, rfl, rfl⟩
  dsimp only [app]
  refine o_run ft [7] rfl rfl ?_
  refine o_nil ?_
  refine q_then ?_
  refine s_seq ?_
  refine q_join (fun (x11 : List UInt8 × Arr UInt32 8) (y12 : Option Addr × Nat) => ⟨Sl E8 y12.1 y12.2 x11.1 :: Sl E8 A8 c9 r6 :: Sls (some ⟨b5, 0, none⟩) 2 ([a0_s.rest, a1_b] : List (List UInt8)) :: Sl EV (some ⟨b5, 0, none⟩) 2 [.slice A1 a0_s.rest.length c2, .slice A3 a1_b.length c4] :: Sl E8 A3 c4 a1_b :: Sl E8 A1 c2 a0_s.rest :: D0, At a0_sp 0 (x11.2.l.flatMap E32 ++ ([v64 (a0_s.count + (UInt64.ofInt (a1_b.length : Int))), .slice A1 a0_s.rest.length c2])) :: Spare A8 r6.length c9 1 :: G0, [(0, (.pointer (some ⟨a0_sp, 0, none⟩))), (4, (.slice y12.1 x11.1.length y12.2))]⟩) H ?_ ?_
  · intro x11 y12 H
    dsimp only
    refine q_then ?_
    refine s_reg [0, 1, 2, 3, 4, 5] rfl ?_
    refine o_run ft [0, 1] rfl rfl ?_
    obtain ⟨r13, Hc14, H⟩ := bind_some' H
    refine oc (k_call (c_slices_Clone x11.1 y12.1 y12.2 r13 Hc14) Tryz.call57 rfl rfl rfl [0] [] rfl rfl (g0 rfl) rfl rfl ?_)
    rintro _ _ _ ⟨A15, c16, rfl, rfl, rfl⟩
    dsimp only [app]
    refine o_run ft [3, 4] rfl rfl ?_
    refine oc (k_st (j := 9) rfl rfl rfl rfl (vs := [.slice A15 r13.length c16]) rfl (sz rfl Tryz.sizeOf22) rfl 1 rfl (spl_skip (n := 8) (spl_lit (j := 1) (cs' := [v64 (a0_s.count + (UInt64.ofInt (a1_b.length : Int))), .slice A15 r13.length c16]) rfl rfl) (arr_len E32_len _ rfl) rfl) rfl (g0 rfl) rfl ?_)
    refine o_nil ?_
    cases H
    exact q_end_n (rs_0 Tryz.results82) ⟨A15, c16, rfl, rfl, rfl⟩ [0] rfl 7 rfl [1] rfl 2 rfl
  · intro J10 J10h H
    refine s_block ?_
    refine s_loop (k_wk (loop_ind (fun (s17 : List UInt8 × Arr UInt32 8) (y17 : Option Addr × Nat) => ⟨Sl E8 y17.1 y17.2 s17.1 :: Sl E8 A8 c9 r6 :: Sls (some ⟨b5, 0, none⟩) 2 ([a0_s.rest, a1_b] : List (List UInt8)) :: Sl EV (some ⟨b5, 0, none⟩) 2 [.slice A1 a0_s.rest.length c2, .slice A3 a1_b.length c4] :: Sl E8 A3 c4 a1_b :: Sl E8 A1 c2 a0_s.rest :: D0, At a0_sp 0 (s17.2.l.flatMap E32 ++ ([v64 (a0_s.count + (UInt64.ofInt (a1_b.length : Int))), .slice A1 a0_s.rest.length c2])) :: Spare A8 r6.length c9 1 :: G0, [(0, (.pointer (some ⟨a0_sp, 0, none⟩))), (4, (.slice y17.1 s17.1.length y17.2))]⟩) (sha_Stream_Write_l0 J10) _ (fun _ => rfl) ?_ Fuel (r6, a0_s.h) (A8, c9) H) [0, 4] [0, 0, 1, 2, 3, 4] 5 [1, 0] 0 rfl rfl rfl)
    intro k17 s17 y17 ih H
    dsimp only
    rw [sha_Stream_Write_l0] at H
    refine s_seq ?_
    refine s_seq ?_
    refine s_reg [0, 1, 2] rfl ?_
    refine o_run ft [0] rfl rfl ?_
    refine o_pu rfl (ev_len_slice rfl rfl Tryz.runUnderlying22) (g0 rfl) rfl rfl ?_
    refine o_run ft [2] rfl rfl ?_
    refine o_nil ?_
    refine q_then ?_
    refine s_cond rfl ?_ ?_
    · intro hb18
      have H := cnd_t H hb18
      refine s_skip ?_
      refine q_then ?_
      refine s_seq ?_
      refine s_block ?_
      obtain ⟨hk22, H⟩ := chk_some H
      refine k_sub (a := (0 : Int)) (b := (64 : Int)) 0 rfl E8_len hk22 ?_
      intro A19 c20 hA21
      refine s_draw mixed [(4, [7, 10], Has a0_sp 0 (s17.2.l.flatMap E32 ++ ([v64 (a0_s.count + (UInt64.ofInt (a1_b.length : Int))), .slice A1 a0_s.rest.length c2])))] ?_
      refine a_run ft [0, 1, 2, 3] rfl (fun _ _ _ _ _ h => h) (by kernel_rfl) rfl ?_
      refine a_l1 4 0 rfl (by kernel_rfl) rfl (ev_ldN (j := 0) rfl rfl Tryz.isAgg176 (sz (arr_len E32_len _ rfl) Tryz.sizeOf176) (sub_head (sub_all _)) rfl) (fun _ _ _ h => h) (g0 rfl) rfl rfl ?_
      refine a_run ft [5] rfl (fun _ _ _ _ _ h => h) (by kernel_rfl) rfl ?_
      refine a_p1 6 (by kernel_rfl) rfl (ev_slice_sl (ka := .i64) (a := (0 : Int)) (b := (64 : Int)) rfl rfl Tryz.runUnderlying22 Tryz.sizeOf5 (.inl ⟨rfl, rfl⟩) (.inr rfl) hk22 hA21) (fun _ _ _ h => h) (g0 rfl) rfl rfl ?_
      refine ac 7 (by kernel_rfl) (sl_cons (hG 0 rfl) sl_nil) ?_
      obtain ⟨r23, Hc24, H⟩ := bind_some' H
      refine k_call (c_sha_mix s17.2 (slc s17.1 (0 : Int) (64 : Int)) A19 c20 r23 Hc24) Tryz.call149 rfl rfl rfl [0] [] rfl rfl (g0 rfl) rfl rfl ?_
      rintro _ _ _ ⟨rfl, rfl, rfl⟩
      dsimp only [app]
      refine a_run ft [8, 9] rfl (fun _ _ _ _ _ h => h) (by kernel_rfl) rfl ?_
      refine ac 10 (by kernel_rfl) (sl_end (by kernel_rfl) sl_nil) ?_
      refine k_st (j := 0) rfl rfl rfl rfl (vs := r23.l.flatMap E32) rfl (sz (arr_len E32_len _ rfl) Tryz.sizeOf176) (arr_sc E32_one _) 0 rfl (spl_head (spl_all ((arr_len E32_len _ rfl).trans (arr_len E32_len _ rfl).symm))) rfl (g0 rfl) rfl ?_
      refine a_done (by kernel_rfl) (sl_end (by kernel_rfl) sl_nil) ?_
      refine q_block ?_
      refine q_then ?_
      refine s_reg [0, 1, 2] rfl ?_
      refine o_run ft [0] rfl rfl ?_
      obtain ⟨hk27, H⟩ := chk_some H
      refine oc (k_slice (kb := .i64) (a := (64 : Int)) (b := (s17.1.length : Int)) 1 rfl rfl rfl rfl E8_len Tryz.runUnderlying22 Tryz.sizeOf5 (.inr rfl) (.inl ⟨rfl, rfl⟩) hk27 (g0 rfl) rfl rfl ?_)
      intro A25 c26
      refine o_run ft [2] rfl rfl ?_
      refine o_nil ?_
      refine q_loop ?_
      exact k_wk (ih ((slc s17.1 (64 : Int) (s17.1.length : Int)), r23) (A25, c26) H) [0, 4] [0, 3, 4, 5, 6, 7] 8 [0, 0] 0 rfl rfl rfl
    · intro hb18
      have H := cnd_f H hb18
      refine s_exit ?_
      refine q_then_x ?_
      refine q_then_x ?_
      refine q_block_x ?_
      exact k_wk (J10h (s17.1, s17.2) (y17.1, y17.2) H) [0, 4] [0, 1, 2, 3, 4, 5] 6 [0, 0] 0 rfl rfl rfl

def sha_Stream_Sum_l0 (J23 : (Arr UInt32 8) → Option (Arr UInt8 32)) : Nat → (List UInt8 × Arr UInt32 8) → Option (Arr UInt8 32)
  | 0, _ => none
  | k34 + 1, s34 =>
    bif (decide ((s34.1.length : Int) > 0)) then (
    chk (0 ≤ (0 : Int) ∧ (0 : Int) ≤ (64 : Int) ∧ (64 : Int) ≤ (s34.1.length : Int)) <|
    (sha_mix s34.2 (slc s34.1 (0 : Int) (64 : Int))).bind fun r40 =>
    chk (0 ≤ (64 : Int) ∧ (64 : Int) ≤ (s34.1.length : Int) ∧ (s34.1.length : Int) ≤ (s34.1.length : Int)) <|
    sha_Stream_Sum_l0 J23 k34 ((slc s34.1 (64 : Int) (s34.1.length : Int)), r40)) else (
    J23 s34.2)

def sha_Stream_Sum_l1 (J12 : (List UInt8) → Option (Arr UInt8 32)) : Nat → (List UInt8) → Option (Arr UInt8 32)
  | 0, _ => none
  | k45 + 1, s45 =>
    bif (((s45.length : Int).tmod 64) != 56) then (
    chk (s45.length + ([0] : List UInt8).length ≤ 68719476736) <|
    sha_Stream_Sum_l1 J12 k45 (s45 ++ ([0] : List UInt8))) else (
    J12 s45)

def sha_Stream_Sum (a0_s : StreamS) : Option (Arr UInt8 32) :=
(slices_Clone a0_s.rest).bind fun r4 =>
chk (r4.length + ([128] : List UInt8).length ≤ 68719476736) <|
jn (fun (x13 : List UInt8) =>
(sha_long (a0_s.count * (8 : UInt64))).bind fun r16 =>
chk (x13.length + r16.length ≤ 68719476736) <|
jn (fun (x24 : Arr UInt32 8) =>
(sha_told x24).bind fun r26 =>
chk (32 ≤ r26.length) <|
some (Arr.of 0 32 r26)) fun J23 =>
sha_Stream_Sum_l0 J23 Fuel ((x13 ++ r16), a0_s.h)) fun J12 =>
sha_Stream_Sum_l1 J12 Fuel (r4 ++ ([128] : List UInt8))

theorem c_sha_Stream_Sum (a0_sp : Nat) (a0_s : StreamS) (A1 : Option Addr) (c2 : Nat) (r : (Arr UInt8 32)) (H : sha_Stream_Sum a0_s = some r) : Fn Tryz.prog 86 [(.pointer (some ⟨a0_sp, 0, none⟩))] [Sl E8 A1 c2 a0_s.rest] [At a0_sp 0 (a0_s.h.l.flatMap E32 ++ ([v64 a0_s.count, .slice A1 a0_s.rest.length c2]))] (fun v D' G' => v = (.agg (r.l.flatMap E8).toArray) ∧ D' = [] ∧ G' = [At a0_sp 0 (a0_s.h.l.flatMap E32 ++ ([v64 a0_s.count, .slice A1 a0_s.rest.length c2]))]) := by
  unfold sha_Stream_Sum at H
  refine fn_of Tryz.func86 rfl Tryz.ntmps86 rfl ?_
  intro w0 D0 G0
  dsimp only [app, initEnv, Nat.zero_add, Nat.reduceAdd]
  refine s_seq ?_
  refine s_reg [0] rfl ?_
  refine oc (k_alloc rfl rfl Tryz.zeroValue45 (cs := (Arr.zero 0 32 : Arr UInt8 32).l.flatMap E8) rfl (g0 rfl) rfl rfl ?_)
  intro b3
  refine o_nil ?_
  refine q_then ?_
  refine s_seq ?_
  refine s_seq ?_
  refine s_reg [0, 1] rfl ?_
  refine o_run ft [0] rfl rfl ?_
  refine o_pu rfl (ev_bin rfl rfl rfl rfl (eql_ptr_pn Tryz.runUnderlying137)) (g0 rfl) rfl rfl ?_
  refine o_nil ?_
  refine q_then ?_
  refine s_cond_f rfl ?_
  refine s_skip ?_
  refine q_then ?_
  refine s_seq ?_
  refine s_reg [0, 1, 2, 3, 4, 5, 6, 7] rfl ?_
  refine o_run ft [0, 1, 2] rfl rfl ?_
  refine o_ld (hG 1 rfl) rfl (ev_ld1 (j := 9) rfl rfl Tryz.isAgg22 (sub_skip (n := 8) (sub_nth (j := 1) rfl) (arr_len E32_len _ rfl) rfl) rfl) (g0 rfl) rfl rfl ?_
  obtain ⟨r4, Hc5, H⟩ := bind_some' H
  refine oc (k_call (c_slices_Clone a0_s.rest A1 c2 r4 Hc5) Tryz.call57 rfl rfl rfl [0] [] rfl rfl (g0 rfl) rfl rfl ?_)
  rintro _ _ _ ⟨A6, c7, rfl, rfl, rfl⟩
  dsimp only [app]
  refine oc (k_buildSlice (f := E8) ([128] : List UInt8) rfl rfl rfl rfl Tryz.runUnderlying22 Tryz.sizeOf5 Tryz.zeroValue5 rfl rfl (fill_all rfl rfl (by simp) rfl rfl) (g0 rfl) rfl rfl ?_)
  intro b8
  obtain ⟨hk11, H⟩ := chk_some H
  refine oc (k_append 1 0 0 rfl rfl rfl rfl rfl rfl rfl E8_len E8_one Tryz.underlying22 Tryz.underlying22 info5 rfl rfl rfl rfl hk11 (g0 rfl) rfl rfl ?_)
  intro A9 c10
  refine o_run ft [7] rfl rfl ?_
  refine o_nil ?_
  refine q_then ?_
  refine s_seq ?_
  refine q_join (fun (x13 : List UInt8) (y14 : Option Addr × Nat) => ⟨Sl E8 y14.1 y14.2 x13 :: Sl E8 A9 c10 (r4 ++ ([128] : List UInt8)) :: Sl E8 (some ⟨b8, 0, none⟩) 1 ([128] : List UInt8) :: Sl E8 A6 c7 r4 :: Sl E8 A1 c2 a0_s.rest :: D0, At b3 0 ((Arr.zero 0 32 : Arr UInt8 32).l.flatMap E8) :: At a0_sp 0 (a0_s.h.l.flatMap E32 ++ ([v64 a0_s.count, .slice A1 a0_s.rest.length c2])) :: Spare y14.1 x13.length y14.2 1 :: G0, [(0, (.pointer (some ⟨a0_sp, 0, none⟩))), (2, (.pointer (some ⟨b3, 0, none⟩))), (3, (.slice y14.1 x13.length y14.2))]⟩) H ?_ ?_
  · intro x13 y14 H
    dsimp only
    refine q_then ?_
    refine s_seq ?_
    refine s_reg [0, 1, 2, 3, 4, 5] rfl ?_
    refine o_run ft [0, 1, 2] rfl rfl ?_
    refine o_ld (hG 1 rfl) rfl (ev_ldN (j := 0) rfl rfl Tryz.isAgg176 (sz (arr_len E32_len _ rfl) Tryz.sizeOf176) (sub_head (sub_all _)) rfl) (g0 rfl) rfl rfl ?_
    refine oc (k_alloc rfl rfl Tryz.zeroValue176 (cs := (Arr.zero 0 8 : Arr UInt32 8).l.flatMap E32) rfl (g0 rfl) rfl rfl ?_)
    intro b15
    refine oc (k_st (j := 0) rfl rfl rfl rfl (vs := a0_s.h.l.flatMap E32) rfl (sz (arr_len E32_len _ rfl) Tryz.sizeOf176) (arr_sc E32_one _) 0 rfl (spl_all ((arr_len E32_len _ rfl).trans (arr_len E32_len _ rfl).symm)) rfl (g0 rfl) rfl ?_)
    refine o_nil ?_
    refine q_then ?_
    refine s_seq ?_
    refine s_seq ?_
    refine s_reg [0, 1, 2, 3, 4, 5, 6, 7, 8] rfl ?_
    refine o_run ft [0, 1, 2, 3] rfl rfl ?_
    refine o_ld (hG 2 rfl) rfl (ev_ld1 (j := 8) rfl rfl Tryz.isAgg178 (sub_skip (n := 8) (sub_nth (j := 0) rfl) (arr_len E32_len _ rfl) rfl) rfl) (g0 rfl) rfl rfl ?_
    refine o_pu rfl (ev_bin rfl rfl rfl rfl (mul_64 _ 8)) (g0 rfl) rfl rfl ?_
    obtain ⟨r16, Hc17, H⟩ := bind_some' H
    refine oc (k_call (c_sha_long (a0_s.count * (8 : UInt64)) r16 Hc17) Tryz.call153 rfl rfl rfl [] [] rfl rfl (g0 rfl) rfl rfl ?_)
    rintro _ _ _ ⟨A18, c19, rfl, rfl, rfl⟩
    dsimp only [app]
    obtain ⟨hk22, H⟩ := chk_some H
    refine oc (k_append 1 0 4 rfl rfl rfl rfl rfl rfl rfl E8_len E8_one Tryz.underlying22 Tryz.underlying22 info5 rfl rfl rfl rfl hk22 (g0 rfl) rfl rfl ?_)
    intro A20 c21
    refine o_run ft [8] rfl rfl ?_
    refine o_nil ?_
    refine q_then ?_
    refine q_join (fun (x24 : Arr UInt32 8) (y25 : Unit) => ⟨Sl E8 A20 c21 (x13 ++ r16) :: Sl E8 A18 c19 r16 :: Sl E8 y14.1 y14.2 x13 :: Sl E8 A9 c10 (r4 ++ ([128] : List UInt8)) :: Sl E8 (some ⟨b8, 0, none⟩) 1 ([128] : List UInt8) :: Sl E8 A6 c7 r4 :: Sl E8 A1 c2 a0_s.rest :: D0, At b15 0 (x24.l.flatMap E32) :: At b3 0 ((Arr.zero 0 32 : Arr UInt8 32).l.flatMap E8) :: At a0_sp 0 (a0_s.h.l.flatMap E32 ++ ([v64 a0_s.count, .slice A1 a0_s.rest.length c2])) :: Spare A18 r16.length c19 1 :: Spare A20 (x13 ++ r16).length c21 1 :: G0, [(2, (.pointer (some ⟨b3, 0, none⟩))), (4, (.pointer (some ⟨b15, 0, none⟩)))]⟩) H ?_ ?_
    · intro x24 y25 H
      dsimp only
      refine q_then ?_
      refine s_seq ?_
      refine s_reg [0, 1, 2, 3, 4] rfl ?_
      refine o_ld (hG 0 rfl) rfl (ev_ldN (j := 0) rfl rfl Tryz.isAgg176 (sz (arr_len E32_len _ rfl) Tryz.sizeOf176) (sub_all _) rfl) (g0 rfl) rfl rfl ?_
      obtain ⟨r26, Hc27, H⟩ := bind_some' H
      refine oc (k_call (c_sha_told x24 r26 Hc27) Tryz.call154 rfl rfl rfl [] [] rfl rfl (g0 rfl) rfl rfl ?_)
      rintro _ _ _ ⟨A28, c29, rfl, rfl, rfl⟩
      dsimp only [app]
      obtain ⟨hk33, H⟩ := chk_some H
      refine k_sl_ro 0 rfl (ne_of_len (m := 32) E8_len rfl rfl hk33) ?_
      intro b30 q31 hA32
      refine o_pu rfl (ev_arrayAt rfl rfl Tryz.runUnderlying45 hk33) (g0 rfl) rfl rfl ?_
      refine k_eq (v' := .pointer (some ⟨b30, q31, none⟩)) 45 rfl (by rw [hA32]) ?_
      refine o_ld (hD 0 rfl) rfl (ev_ldN (j := 0) rfl rfl Tryz.isAgg45 (sz (arr_len E8_len _ rfl) Tryz.sizeOf45) (sub_of (m := 32) 0 _ hk33) rfl) (g0 rfl) rfl rfl ?_
      refine oc (k_st (j := 0) rfl rfl rfl rfl (vs := (Arr.of 0 32 r26).l.flatMap E8) rfl (sz (arr_len E8_len _ rfl) Tryz.sizeOf45) (arr_sc E8_one _) 2 rfl (spl_all ((arr_len E8_len _ rfl).trans (arr_len E8_len _ rfl).symm)) rfl (g0 rfl) rfl ?_)
      refine o_nil ?_
      refine q_then ?_
      refine s_ret ?_
      cases H
      exact q_end (rs_1 Tryz.results86 (rv_cell (j := 0) rfl (hG 2 rfl) Tryz.isAgg45 (sz (arr_len E8_len _ rfl) Tryz.sizeOf45) (sub_all _) rfl)) ⟨rfl, rfl, rfl⟩ [] rfl 9 rfl [3] rfl 5 rfl
    · intro J23 J23h H
      refine s_block ?_
      refine s_loop (k_wk (loop_ind (fun (s34 : List UInt8 × Arr UInt32 8) (y34 : Option Addr × Nat) => ⟨Sl E8 y34.1 y34.2 s34.1 :: Sl E8 A20 c21 (x13 ++ r16) :: Sl E8 A18 c19 r16 :: Sl E8 y14.1 y14.2 x13 :: Sl E8 A9 c10 (r4 ++ ([128] : List UInt8)) :: Sl E8 (some ⟨b8, 0, none⟩) 1 ([128] : List UInt8) :: Sl E8 A6 c7 r4 :: Sl E8 A1 c2 a0_s.rest :: D0, At b15 0 (s34.2.l.flatMap E32) :: At b3 0 ((Arr.zero 0 32 : Arr UInt8 32).l.flatMap E8) :: At a0_sp 0 (a0_s.h.l.flatMap E32 ++ ([v64 a0_s.count, .slice A1 a0_s.rest.length c2])) :: Spare A18 r16.length c19 1 :: Spare A20 (x13 ++ r16).length c21 1 :: G0, [(2, (.pointer (some ⟨b3, 0, none⟩))), (3, (.slice y34.1 s34.1.length y34.2)), (4, (.pointer (some ⟨b15, 0, none⟩)))]⟩) (sha_Stream_Sum_l0 J23) _ (fun _ => rfl) ?_ Fuel ((x13 ++ r16), a0_s.h) (A20, c21) H) [2, 3, 4] [0, 0, 1, 2, 3, 4, 5, 6] 7 [1, 1, 1, 0, 0] 0 rfl rfl rfl)
      intro k34 s34 y34 ih H
      dsimp only
      rw [sha_Stream_Sum_l0] at H
      refine s_seq ?_
      refine s_seq ?_
      refine s_reg [0, 1, 2] rfl ?_
      refine o_run ft [0] rfl rfl ?_
      refine o_pu rfl (ev_len_slice rfl rfl Tryz.runUnderlying22) (g0 rfl) rfl rfl ?_
      refine o_run ft [2] rfl rfl ?_
      refine o_nil ?_
      refine q_then ?_
      refine s_cond rfl ?_ ?_
      · intro hb35
        have H := cnd_t H hb35
        refine s_skip ?_
        refine q_then ?_
        refine s_seq ?_
        refine s_block ?_
        obtain ⟨hk39, H⟩ := chk_some H
        refine k_sub (a := (0 : Int)) (b := (64 : Int)) 0 rfl E8_len hk39 ?_
        intro A36 c37 hA38
        refine s_draw mixed [(0, [3, 4], Has b15 0 (s34.2.l.flatMap E32))] ?_
        refine a_l1 0 0 rfl (by kernel_rfl) rfl (ev_ldN (j := 0) rfl rfl Tryz.isAgg176 (sz (arr_len E32_len _ rfl) Tryz.sizeOf176) (sub_all _) rfl) (fun _ _ _ h => h) (g0 rfl) rfl rfl ?_
        refine a_run ft [1] rfl (fun _ _ _ _ _ h => h) (by kernel_rfl) rfl ?_
        refine a_p1 2 (by kernel_rfl) rfl (ev_slice_sl (ka := .i64) (a := (0 : Int)) (b := (64 : Int)) rfl rfl Tryz.runUnderlying22 Tryz.sizeOf5 (.inl ⟨rfl, rfl⟩) (.inr rfl) hk39 hA38) (fun _ _ _ h => h) (g0 rfl) rfl rfl ?_
        refine ac 3 (by kernel_rfl) (sl_cons (hG 0 rfl) sl_nil) ?_
        obtain ⟨r40, Hc41, H⟩ := bind_some' H
        refine k_call (c_sha_mix s34.2 (slc s34.1 (0 : Int) (64 : Int)) A36 c37 r40 Hc41) Tryz.call149 rfl rfl rfl [0] [] rfl rfl (g0 rfl) rfl rfl ?_
        rintro _ _ _ ⟨rfl, rfl, rfl⟩
        dsimp only [app]
        refine ac 4 (by kernel_rfl) (sl_end (by kernel_rfl) sl_nil) ?_
        refine k_st (j := 0) rfl rfl rfl rfl (vs := r40.l.flatMap E32) rfl (sz (arr_len E32_len _ rfl) Tryz.sizeOf176) (arr_sc E32_one _) 0 rfl (spl_all ((arr_len E32_len _ rfl).trans (arr_len E32_len _ rfl).symm)) rfl (g0 rfl) rfl ?_
        refine a_done (by kernel_rfl) (sl_end (by kernel_rfl) sl_nil) ?_
        refine q_block ?_
        refine q_then ?_
        refine s_reg [0, 1, 2] rfl ?_
        refine o_run ft [0] rfl rfl ?_
        obtain ⟨hk44, H⟩ := chk_some H
        refine oc (k_slice (kb := .i64) (a := (64 : Int)) (b := (s34.1.length : Int)) 1 rfl rfl rfl rfl E8_len Tryz.runUnderlying22 Tryz.sizeOf5 (.inr rfl) (.inl ⟨rfl, rfl⟩) hk44 (g0 rfl) rfl rfl ?_)
        intro A42 c43
        refine o_run ft [2] rfl rfl ?_
        refine o_nil ?_
        refine q_loop ?_
        exact k_wk (ih ((slc s34.1 (64 : Int) (s34.1.length : Int)), r40) (A42, c43) H) [2, 3, 4] [0, 3, 4, 5, 6, 7, 8, 9] 10 [0, 0, 0, 0, 0] 0 rfl rfl rfl
      · intro hb35
        have H := cnd_f H hb35
        refine s_exit ?_
        refine q_then_x ?_
        refine q_then_x ?_
        refine q_block_x ?_
        exact k_wk (J23h s34.2 () H) [2, 4] [1, 2, 3, 4, 5, 6, 7] 8 [0, 0, 0, 0, 0] 0 rfl rfl rfl
  · intro J12 J12h H
    refine s_block ?_
    refine s_loop (k_wk (loop_ind (fun (s45 : List UInt8) (y45 : Option Addr × Nat) => ⟨Sl E8 y45.1 y45.2 s45 :: Sl E8 A9 c10 (r4 ++ ([128] : List UInt8)) :: Sl E8 (some ⟨b8, 0, none⟩) 1 ([128] : List UInt8) :: Sl E8 A6 c7 r4 :: Sl E8 A1 c2 a0_s.rest :: D0, At b3 0 ((Arr.zero 0 32 : Arr UInt8 32).l.flatMap E8) :: At a0_sp 0 (a0_s.h.l.flatMap E32 ++ ([v64 a0_s.count, .slice A1 a0_s.rest.length c2])) :: Spare y45.1 s45.length y45.2 1 :: G0, [(0, (.pointer (some ⟨a0_sp, 0, none⟩))), (2, (.pointer (some ⟨b3, 0, none⟩))), (3, (.slice y45.1 s45.length y45.2))]⟩) (sha_Stream_Sum_l1 J12) _ (fun _ => rfl) ?_ Fuel (r4 ++ ([128] : List UInt8)) (A9, c10) H) [0, 2, 3] [0, 0, 1, 2, 3] 4 [1, 1, 0] 0 rfl rfl rfl)
    intro k45 s45 y45 ih H
    dsimp only
    rw [sha_Stream_Sum_l1] at H
    refine s_seq ?_
    refine s_seq ?_
    refine s_reg [0, 1, 2, 3] rfl ?_
    refine o_run ft [0] rfl rfl ?_
    refine o_pu rfl (ev_len_slice rfl rfl Tryz.runUnderlying22) (g0 rfl) rfl rfl ?_
    refine o_pu rfl (ev_bin rfl rfl rfl rfl (rem_i _ 64 rfl)) (g0 rfl) rfl rfl ?_
    refine o_run ft [3] rfl rfl ?_
    refine o_nil ?_
    refine q_then ?_
    refine s_cond rfl ?_ ?_
    · intro hb46
      have H := cnd_t H hb46
      refine s_skip ?_
      refine q_then ?_
      refine s_block ?_
      refine s_reg [0, 1, 2, 3] rfl ?_
      refine o_run ft [0] rfl rfl ?_
      refine oc (k_buildSlice (f := E8) ([0] : List UInt8) rfl rfl rfl rfl Tryz.runUnderlying22 Tryz.sizeOf5 Tryz.zeroValue5 rfl rfl (fill_all rfl rfl (by simp) rfl rfl) (g0 rfl) rfl rfl ?_)
      intro b47
      obtain ⟨hk50, H⟩ := chk_some H
      refine oc (k_append 1 0 2 rfl rfl rfl rfl rfl rfl rfl E8_len E8_one Tryz.underlying22 Tryz.underlying22 info5 rfl rfl rfl rfl hk50 (g0 rfl) rfl rfl ?_)
      intro A48 c49
      refine o_run ft [3] rfl rfl ?_
      refine o_nil ?_
      refine q_block ?_
      refine q_loop ?_
      exact k_wk (ih (s45 ++ ([0] : List UInt8)) (A48, c49) H) [0, 2, 3] [0, 3, 4, 5, 6] 7 [0, 0, 0] 0 rfl rfl rfl
    · intro hb46
      have H := cnd_f H hb46
      refine s_exit ?_
      refine q_then_x ?_
      refine q_then_x ?_
      refine q_block_x ?_
      exact k_wk (J12h s45 (y45.1, y45.2) H) [0, 2, 3] [0, 1, 2, 3, 4] 5 [0, 0, 0] 0 rfl rfl rfl

def sha_Sum (a0_b : List UInt8) : Option (Arr UInt8 32) :=
(sha_New ).bind fun r4 =>
(sha_Stream_Write (⟨r4.h, r4.count, r4.rest⟩ : StreamS) a0_b).bind fun r9 =>
(sha_Stream_Sum (⟨r9.h, r9.count, r9.rest⟩ : StreamS)).bind fun r13 =>
some r13

theorem c_sha_Sum (a0_b : List UInt8) (A1 : Option Addr) (c2 : Nat) (r : (Arr UInt8 32)) (H : sha_Sum a0_b = some r) : Fn Tryz.prog 40 [(.slice A1 a0_b.length c2)] [Sl E8 A1 c2 a0_b] [] (fun v D' G' => v = (.agg (r.l.flatMap E8).toArray) ∧ D' = [] ∧ G' = []) := by
  unfold sha_Sum at H
  refine fn_of Tryz.func40 rfl Tryz.ntmps40 rfl ?_
  intro w0 D0 G0
  dsimp only [app, initEnv, Nat.zero_add, Nat.reduceAdd]
  refine s_seq ?_
  refine s_reg [0] rfl ?_
  refine oc (k_alloc rfl rfl Tryz.zeroValue45 (cs := (Arr.zero 0 32 : Arr UInt8 32).l.flatMap E8) rfl (g0 rfl) rfl rfl ?_)
  intro b3
  refine o_nil ?_
  refine q_then ?_
  refine s_seq ?_
  refine s_reg [0, 1] rfl ?_
  obtain ⟨r4, Hc5, H⟩ := bind_some' H
  refine oc (k_call (c_sha_New  r4 Hc5) Tryz.call80 rfl rfl rfl [] [] rfl rfl (g0 rfl) rfl rfl ?_)
  rintro _ _ _ ⟨b6, A7, c8, rfl, rfl, rfl⟩
  dsimp only [app]
  refine o_run ft [1] rfl rfl ?_
  refine o_nil ?_
  refine q_then ?_
  refine s_seq ?_
  refine s_reg [0, 1, 2] rfl ?_
  refine o_run ft [0, 1] rfl rfl ?_
  obtain ⟨r9, Hc10, H⟩ := bind_some' H
  refine oc (k_call (c_sha_Stream_Write b6 (⟨r4.h, r4.count, r4.rest⟩ : StreamS) A7 c8 a0_b A1 c2 r9 Hc10) Tryz.call82 rfl rfl rfl [1, 0] [0] rfl rfl (g0 rfl) rfl rfl ?_)
  rintro _ _ _ ⟨A11, c12, rfl, rfl, rfl⟩
  dsimp only [app]
  refine o_nil ?_
  refine q_then ?_
  refine s_seq ?_
  refine s_reg [0, 1, 2] rfl ?_
  refine o_run ft [0] rfl rfl ?_
  obtain ⟨r13, Hc14, H⟩ := bind_some' H
  refine oc (k_call (c_sha_Stream_Sum b6 (⟨r9.h, r9.count, r9.rest⟩ : StreamS) A11 c12 r13 Hc14) Tryz.call86 rfl rfl rfl [0] [0] rfl rfl (g0 rfl) rfl rfl ?_)
  rintro _ _ _ ⟨rfl, rfl, rfl⟩
  dsimp only [app]
  refine oc (k_st (j := 0) rfl rfl rfl rfl (vs := r13.l.flatMap E8) rfl (sz (arr_len E8_len _ rfl) Tryz.sizeOf45) (arr_sc E8_one _) 1 rfl (spl_all ((arr_len E8_len _ rfl).trans (arr_len E8_len _ rfl).symm)) rfl (g0 rfl) rfl ?_)
  refine o_nil ?_
  refine q_then ?_
  refine s_ret ?_
  cases H
  exact q_end (rs_1 Tryz.results40 (rv_cell (j := 0) rfl (hG 1 rfl) Tryz.isAgg45 (sz (arr_len E8_len _ rfl) Tryz.sizeOf45) (sub_all _) rfl)) ⟨rfl, rfl, rfl⟩ [] rfl 3 rfl [] rfl 2 rfl

def slot_Digest (a0_a : AreaS) (a1_slot : Int) (a2_sectors : Int) (a3_size : Int) (fl0 : FlashS) : Option (Arr UInt8 32) :=
(slot_Image a0_a a1_slot a2_sectors a3_size fl0).bind fun r2 =>
(sha_Sum r2).bind fun r6 =>
some r6

theorem c_slot_Digest (fp0 : Nat) (a0_ap : Nat) (a0_a : AreaS) (a1_slot : Int) (a2_sectors : Int) (a3_size : Int) (fl0 : FlashS) (fl0g : FlashG) (r : (Arr UInt8 32)) (H : slot_Digest a0_a a1_slot a2_sectors a3_size fl0 = some r) : Fn Tryz.prog 118 [(.pointer (some ⟨a0_ap, 0, none⟩)), (vi a1_slot), (vi a2_sectors), (vi a3_size)] [] [AreaT fp0 () a0_ap a0_a, FlashT fl0g fp0 fl0] (fun v D' G' => v = (.agg (r.l.flatMap E8).toArray) ∧ D' = [] ∧ G' = [AreaT fp0 () a0_ap a0_a, FlashT fl0g fp0 fl0]) := by
  unfold slot_Digest at H
  refine fn_of Tryz.func118 rfl Tryz.ntmps118 rfl ?_
  intro w0 D0 G0
  dsimp only [app, initEnv, Nat.zero_add, Nat.reduceAdd]
  refine s_seq ?_
  refine s_reg [0] rfl ?_
  refine oc (k_alloc rfl rfl Tryz.zeroValue45 (cs := (Arr.zero 0 32 : Arr UInt8 32).l.flatMap E8) rfl (g0 rfl) rfl rfl ?_)
  intro b1
  refine o_nil ?_
  refine q_then ?_
  refine s_seq ?_
  refine s_reg [0, 1, 2, 3, 4, 5, 6] rfl ?_
  refine o_run ft [0, 1, 2, 3] rfl rfl ?_
  obtain ⟨r2, Hc3, H⟩ := bind_some' H
  refine oc (k_call (c_slot_Image fp0 a0_ap a0_a a1_slot a2_sectors a3_size fl0 fl0g r2 Hc3) Tryz.call55 rfl rfl rfl [] [1, 1] rfl rfl (g0 rfl) rfl rfl ?_)
  rintro _ _ _ ⟨A4, c5, rfl, rfl, rfl⟩
  dsimp only [app]
  obtain ⟨r6, Hc7, H⟩ := bind_some' H
  refine oc (k_call (c_sha_Sum r2 A4 c5 r6 Hc7) Tryz.call40 rfl rfl rfl [0] [] rfl rfl (g0 rfl) rfl rfl ?_)
  rintro _ _ _ ⟨rfl, rfl, rfl⟩
  dsimp only [app]
  refine oc (k_st (j := 0) rfl rfl rfl rfl (vs := r6.l.flatMap E8) rfl (sz (arr_len E8_len _ rfl) Tryz.sizeOf45) (arr_sc E8_one _) 3 rfl (spl_all ((arr_len E8_len _ rfl).trans (arr_len E8_len _ rfl).symm)) rfl (g0 rfl) rfl ?_)
  refine o_nil ?_
  refine q_then ?_
  refine s_ret ?_
  cases H
  exact q_end (rs_1 Tryz.results118 (rv_cell (j := 0) rfl (hG 3 rfl) Tryz.isAgg45 (sz (arr_len E8_len _ rfl) Tryz.sizeOf45) (sub_all _) rfl)) ⟨rfl, rfl, rfl⟩ [] rfl 1 rfl [1, 1] rfl 2 rfl

def hmac_pad_l0 (a1_with : UInt8) (J10 : (List UInt8) → Option (List UInt8)) : Nat → (Int × List UInt8) → Option (List UInt8)
  | 0, _ => none
  | k14 + 1, s14 =>
    bif (decide (s14.1 < ((64 : Int).toNat : Int))) then (
    chk (0 ≤ s14.1 ∧ s14.1 < ((64 : Int).toNat : Int) ∧ s14.1 < (s14.2.length : Int)) <|
    chk (0 ≤ s14.1 ∧ s14.1 < ((64 : Int).toNat : Int) ∧ s14.1 < (s14.2.length : Int)) <|
    hmac_pad_l0 a1_with J10 k14 ((wrap64 (s14.1 + 1)), (s14.2.set s14.1.toNat ((at' 0 s14.2 s14.1) ^^^ a1_with)))) else (
    J10 s14.2)

def hmac_pad (a0_key : List UInt8) (a1_with : UInt8) : Option (List UInt8) :=
jn (fun (x5 : List UInt8) =>
chk (0 ≤ (64 : Int) ∧ (64 : Int) ≤ 68719476736) <|
chk ((List.replicate (64 : Int).toNat (0 : UInt8)).length = (64 : Int).toNat) <|
jn (fun (x11 : List UInt8) =>
chk (x11.length = (64 : Int).toNat) <|
some x11) fun J10 =>
hmac_pad_l0 a1_with J10 Fuel (0, (cpy (List.replicate (64 : Int).toNat (0 : UInt8)) x5))) fun J4 =>
bif (decide ((a0_key.length : Int) > 64)) then (
(sha_Sum a0_key).bind fun r19 =>
J4 r19.l) else (
J4 a0_key)

theorem c_hmac_pad (a0_key : List UInt8) (A1 : Option Addr) (c2 : Nat) (a1_with : UInt8) (r : (List UInt8)) (H : hmac_pad a0_key a1_with = some r) : Fn Tryz.prog 221 [(.slice A1 a0_key.length c2), (v8 a1_with)] [Sl E8 A1 c2 a0_key] [] (fun v D' G' => ∃ (A22 : Option Addr) (c23 : Nat), v = (.slice A22 r.length c23) ∧ D' = [Sl E8 A22 c23 r] ∧ G' = [Spare A22 r.length c23 1]) := by
  unfold hmac_pad at H
  refine fn_of Tryz.func221 rfl Tryz.ntmps221 rfl ?_
  intro w0 D0 G0
  dsimp only [app, initEnv, Nat.zero_add, Nat.reduceAdd]
  refine s_seq ?_
  refine s_reg [0] rfl ?_
  refine o_run ft [0] rfl rfl ?_
  refine o_nil ?_
  refine q_then ?_
  refine s_seq ?_
  refine s_seq ?_
  refine s_reg [0, 1, 2] rfl ?_
  refine o_run ft [0] rfl rfl ?_
  refine o_pu rfl (ev_len_slice rfl rfl Tryz.runUnderlying22) (g0 rfl) rfl rfl ?_
  refine o_run ft [2] rfl rfl ?_
  refine o_nil ?_
  refine q_then ?_
  refine q_join (fun (x5 : List UInt8) (y6 : Option Addr × Nat) => ⟨Sl E8 y6.1 y6.2 x5 :: Sl E8 A1 c2 a0_key :: D0, G0, [(0, (.slice y6.1 x5.length y6.2)), (1, (v8 a1_with))]⟩) H ?_ ?_
  · intro x5 y6 H
    dsimp only
    refine q_then ?_
    refine s_seq ?_
    refine s_reg [0, 1] rfl ?_
    obtain ⟨hk8, H⟩ := chk_some H
    refine oc (k_make (f := E8) (m := (64 : Int)) (0 : UInt8) rfl rfl rfl rfl Tryz.underlying22 info5 rfl rfl rfl rfl rfl hk8 (g0 rfl) rfl rfl ?_)
    intro b7
    refine o_run ft [1] rfl rfl ?_
    refine o_nil ?_
    refine q_then ?_
    refine s_seq ?_
    refine s_reg [0, 1, 2] rfl ?_
    refine o_run ft [0, 1] rfl rfl ?_
    obtain ⟨hk9, H⟩ := chk_some H
    refine oc (k_copy (xs := (List.replicate (64 : Int).toNat (0 : UInt8))) (j := 0) rfl rfl rfl rfl Tryz.underlying22 info5 rfl E8_len E8_one 0 rfl 0 rfl hk9 (sub_all _) (spl_all (by rw [flatMap_length E8_len, flatMap_length E8_len, cpy_len])) rfl (g0 rfl) rfl rfl ?_)
    refine o_nil ?_
    refine q_then ?_
    refine s_seq ?_
    refine s_seq ?_
    refine s_reg [0, 1, 2] rfl ?_
    refine o_run ft [0] rfl rfl ?_
    refine o_pu rfl (ev_len_slice rfl rfl Tryz.runUnderlying22) (g0 rfl) rfl rfl ?_
    refine o_run ft [2] rfl rfl ?_
    refine o_nil ?_
    refine q_then ?_
    refine q_join (fun (x11 : List UInt8) (y12 : Unit) => ⟨Sl E8 y6.1 y6.2 x5 :: Sl E8 A1 c2 a0_key :: D0, At b7 0 (x11.flatMap E8) :: G0, [(6, (.slice (some ⟨b7, 0, none⟩) ((64 : Int).toNat) ((64 : Int).toNat)))]⟩) H ?_ ?_
    · intro x11 y12 H
      dsimp only
      refine q_then ?_
      refine s_seq ?_
      refine s_reg [0, 1] rfl ?_
      refine o_run ft [0, 1] rfl rfl ?_
      refine o_nil ?_
      refine q_then ?_
      refine s_ret ?_
      obtain ⟨hk13, H⟩ := chk_some H
      refine k_keep 0 rfl ?_
      refine k_ro_sl (f := E8) (cap := (64 : Int).toNat) x11 0 rfl (sub_all _) rfl (Nat.le_of_eq hk13) (by have := hk8; omega) ?_
      refine k_eq (v' := (.slice (some ⟨b7, 0, none⟩) x11.length ((64 : Int).toNat))) 4 rfl (congrArg (fun z => Value.slice (some ⟨b7, 0, none⟩) z ((64 : Int).toNat)) hk13.symm) ?_
      refine k_eq (v' := (.slice (some ⟨b7, 0, none⟩) x11.length ((64 : Int).toNat))) 6 rfl (congrArg (fun z => Value.slice (some ⟨b7, 0, none⟩) z ((64 : Int).toNat)) hk13.symm) ?_
      refine k_eq (v' := (.slice (some ⟨b7, 0, none⟩) x11.length ((64 : Int).toNat))) 31 rfl (congrArg (fun z => Value.slice (some ⟨b7, 0, none⟩) z ((64 : Int).toNat)) hk13.symm) ?_
      refine k_spare_full (some ⟨b7, 0, none⟩) x11.length ((64 : Int).toNat) 1 hk13 ?_
      cases H
      exact q_end (rs_1 Tryz.results221 (rv_tmp rfl)) ⟨(some ⟨b7, 0, none⟩), (64 : Int).toNat, rfl, rfl, rfl⟩ [0] rfl 4 rfl [0] rfl 0 rfl
    · intro J10 J10h H
      refine s_block ?_
      refine s_loop (k_wk (loop_ind (fun (s14 : Int × List UInt8) (y14 : Unit) => ⟨Sl E8 y6.1 y6.2 x5 :: Sl E8 A1 c2 a0_key :: D0, At b7 0 (s14.2.flatMap E8) :: G0, [(1, (v8 a1_with)), (6, (.slice (some ⟨b7, 0, none⟩) ((64 : Int).toNat) ((64 : Int).toNat))), (19, (vi ((64 : Int).toNat : Int))), (20, (vi s14.1))]⟩) (hmac_pad_l0 a1_with J10) _ (fun _ => rfl) ?_ Fuel (0, (cpy (List.replicate (64 : Int).toNat (0 : UInt8)) x5)) () H) [1, 6, 19, 20] [0, 1] 2 [0] 0 rfl rfl rfl)
      intro k14 s14 y14 ih H
      dsimp only
      rw [hmac_pad_l0] at H
      refine s_seq ?_
      refine s_reg [0] rfl ?_
      refine o_run ft [0] rfl rfl ?_
      refine o_nil ?_
      refine q_then ?_
      refine s_seq ?_
      refine s_cond rfl ?_ ?_
      · intro hb15
        have H := cnd_t H hb15
        refine s_skip ?_
        refine q_then ?_
        refine s_seq ?_
        refine s_block ?_
        refine s_seq ?_
        refine s_reg [0, 1] rfl ?_
        refine o_run ft [0, 1] rfl rfl ?_
        refine o_nil ?_
        refine q_then ?_
        refine s_reg [0, 1, 2, 3, 4, 5, 6, 7] rfl ?_
        refine o_run ft [0, 1] rfl rfl ?_
        obtain ⟨hk16, H⟩ := chk_some H
        refine o_pu rfl (ev_idx_slice rfl rfl rfl Tryz.runUnderlying22 Tryz.sizeOf5 ⟨hk16.1, hk16.2.1⟩ rfl) (g0 rfl) rfl rfl ?_
        refine o_ld (hG 0 rfl) rfl (ev_ld1 rfl rfl Tryz.isAgg5 (sub_map E8_len 0 (k := s14.1) ⟨hk16.1, hk16.2.2⟩ rfl) (by omega)) (g0 rfl) rfl rfl ?_
        refine o_run ft [4] rfl rfl ?_
        refine o_pu rfl (ev_bin rfl rfl rfl rfl (xor_8 _ _)) (g0 rfl) rfl rfl ?_
        obtain ⟨hk17, H⟩ := chk_some H
        refine o_pu rfl (ev_idx_slice rfl rfl rfl Tryz.runUnderlying22 Tryz.sizeOf5 ⟨hk17.1, hk17.2.1⟩ rfl) (g0 rfl) rfl rfl ?_
        refine oc (k_st rfl rfl rfl rfl (vs := [v8 ((at' 0 s14.2 s14.1) ^^^ a1_with)]) rfl (sz rfl Tryz.sizeOf5) rfl 0 rfl (spl_map E8_len _ (k := s14.1) _ ⟨hk17.1, hk17.2.2⟩ rfl) (by omega) (g0 rfl) rfl ?_)
        refine o_nil ?_
        refine q_block ?_
        refine q_then ?_
        refine s_reg [0, 1] rfl ?_
        refine o_run ft [0, 1] rfl rfl ?_
        refine o_nil ?_
        refine q_loop ?_
        exact k_wk (ih ((wrap64 (s14.1 + 1)), (s14.2.set s14.1.toNat ((at' 0 s14.2 s14.1) ^^^ a1_with))) () H) [1, 6, 19, 20] [0, 1] 2 [0] 0 rfl rfl rfl
      · intro hb15
        have H := cnd_f H hb15
        refine s_exit ?_
        refine q_then_x ?_
        refine q_then_x ?_
        refine q_block_x ?_
        exact k_wk (J10h s14.2 () H) [6] [0, 1] 2 [0] 0 rfl rfl rfl
  · intro J4 J4h H
    refine s_cond rfl ?_ ?_
    · intro hb18
      have H := cnd_t H hb18
      refine s_seq ?_
      refine s_reg [0, 1, 2, 3] rfl ?_
      refine o_run ft [0] rfl rfl ?_
      obtain ⟨r19, Hc20, H⟩ := bind_some' H
      refine oc (k_call (c_sha_Sum a0_key A1 c2 r19 Hc20) Tryz.call40 rfl rfl rfl [0] [] rfl rfl (g0 rfl) rfl rfl ?_)
      rintro _ _ _ ⟨rfl, rfl, rfl⟩
      dsimp only [app]
      refine oc (k_alloc rfl rfl Tryz.zeroValue45 (cs := (Arr.zero 0 32 : Arr UInt8 32).l.flatMap E8) rfl (g0 rfl) rfl rfl ?_)
      intro b21
      refine oc (k_st (j := 0) rfl rfl rfl rfl (vs := r19.l.flatMap E8) rfl (sz (arr_len E8_len _ rfl) Tryz.sizeOf45) (arr_sc E8_one _) 0 rfl (spl_all ((arr_len E8_len _ rfl).trans (arr_len E8_len _ rfl).symm)) rfl (g0 rfl) rfl ?_)
      refine o_nil ?_
      refine q_then ?_
      refine s_reg [0, 1] rfl ?_
      refine o_pu rfl (ev_slice_arr rfl rfl Tryz.runUnderlying45 Tryz.sizeOf5) (g0 rfl) rfl rfl ?_
      refine k_keep 0 rfl ?_
      refine k_ro_sl (f := E8) (cap := 32) r19.l 0 rfl (sub_all _) rfl (Nat.le_of_eq (r19).len) (by decide) ?_
      refine k_eq (v' := (.slice (some ⟨b21, 0, none⟩) r19.l.length 32)) 13 rfl (congrArg (fun z => Value.slice (some ⟨b21, 0, none⟩) z 32) (r19).len.symm) ?_
      refine k_spare_full (some ⟨b21, 0, none⟩) r19.l.length 32 1 (r19).len ?_
      refine o_run ft [1] rfl rfl ?_
      refine o_nil ?_
      exact k_wk (J4h r19.l ((some ⟨b21, 0, none⟩), 32) H) [0, 1] [0, 2] 3 [] 1 rfl rfl rfl
    · intro hb18
      have H := cnd_f H hb18
      refine s_skip ?_
      exact k_wk (J4h a0_key (A1, c2) H) [0, 1] [0, 0] 1 [] 0 rfl rfl rfl

end Go.Proofs.YtpdoioeckiiegaaGreatDoor.Wl
