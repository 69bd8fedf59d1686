import Derived.Test.YtpdoioeckiiegaaGreatDoorWlW
import Derived.Test.YtpdoioeckiiegaaGreatDoorWlX0
import Derived.Test.YtpdoioeckiiegaaGreatDoorWlX5
import Derived.Test.YtpdoioeckiiegaaGreatDoorWlX9
import Derived.Test.YtpdoioeckiiegaaGreatDoorWlX10
import Derived.Test.YtpdoioeckiiegaaGreatDoorWlX14
import Derived.Test.YtpdoioeckiiegaaGreatDoorWlX15
import Derived.Test.YtpdoioeckiiegaaGreatDoorWlX16
set_option linter.unusedSimpArgs false
set_option linter.unusedVariables false
set_option maxRecDepth 10000
namespace Go.Proofs.YtpdoioeckiiegaaGreatDoor.Wl
open Go.RowKit Go.Proofs
def law20_TenantRights (a0_rights : Int) (a1_kind : Int) : Option Bool :=
(law20_alive ).bind fun r1 =>
bnd (!r1) fun b3 =>
jn (fun x6 =>
bnd x6 fun b7 =>
jn (fun x10 =>
bif x10 then (
some r1) else (
(law20_config (5 : Int)).bind fun r12 =>
(nor_New (8 : Int)).bind fun r20 =>
(tenant_Setup r20 (⟨a0_rights, 0, 8⟩ : CapS) (⟨r12.Name, r12.Key, r12.Slot, r12.Budget, r12.Quota, a0_rights, r12.First⟩ : Config)).bind fun r24 =>
(tenant_Open r24.2 (⟨a0_rights, 0, 8⟩ : CapS) (⟨r12.Name, r12.Key, r12.Slot, r12.Budget, r12.Quota, a0_rights, r12.First⟩ : Config)).bind fun r27 =>
optc r27.1 (
(law20_num r27.2).bind fun r35 =>
bnd (r35 != 0) fun b37 =>
jn (fun x40 =>
bif x40 then (
some false) else (
(tenant_Tenant_Meta_n0 ).bind fun r42 =>
(tenant_Tenant_Do_n0 (⟨a1_kind, 0, []⟩ : Req)).bind fun r45 =>
bnd (decide (a1_kind ≥ 1)) fun b48 =>
jn (fun x51 =>
bnd x51 fun b52 =>
jn (fun x55 =>
jn (fun (x57 : Bool) =>
some x57) fun J56 =>
bnd r45.2 fun b59 =>
bif b59 then (
bnd ((r45.1.Err == 14) == (!x55)) fun b61 =>
bif b61 then (
(tenant_Tenant_Meta_n0 ).bind fun r63 =>
J56 (decide (r63 = r42))) else (
J56 false)) else (
J56 false)) fun J54 =>
bif b52 then (
J54 ((iand (ishr a0_rights ((UInt64.ofInt (iand a1_kind 15)) : UInt64).toNat) 1) == 1)) else
J54 false) fun J50 =>
bif b48 then (
J50 (decide (a1_kind ≤ 9))) else
J50 false)) fun J39 =>
bif b37 then (
J39 true) else
J39 true) (fun x34 =>
(law20_num r27.2).bind fun r67 =>
bnd (r67 != 0) fun b69 =>
jn (fun x72 =>
bif x72 then (
some false) else (
(tenant_Tenant_Meta x34).bind fun r74 =>
(tenant_Tenant_Do x34 (⟨a1_kind, 0, []⟩ : Req) r24.2).bind fun r77 =>
bnd (decide (a1_kind ≥ 1)) fun b82 =>
jn (fun x85 =>
bnd x85 fun b86 =>
jn (fun x89 =>
jn (fun (x91 : Bool) =>
some x91) fun J90 =>
bnd r77.2.1 fun b93 =>
bif b93 then (
bnd ((r77.1.Err == 14) == (!x89)) fun b95 =>
bif b95 then (
(tenant_Tenant_Meta r77.2.2.1).bind fun r97 =>
J90 (decide (r97 = r74))) else (
J90 false)) else (
J90 false)) fun J88 =>
bif b86 then (
J88 ((iand (ishr a0_rights ((UInt64.ofInt (iand a1_kind 15)) : UInt64).toNat) 1) == 1)) else
J88 false) fun J84 =>
bif b82 then (
J84 (decide (a1_kind ≤ 9))) else
J84 false)) fun J71 =>
bif b69 then (
J71 true) else
J71 false))) fun J9 =>
bif b7 then (
J9 true) else
J9 (decide (a0_rights > 1023))) fun J5 =>
bif b3 then (
J5 true) else
J5 (decide (a0_rights < 0))

theorem c_law20_TenantRights (a0_rights : Int) (a1_kind : Int) (r : Bool) (H : law20_TenantRights a0_rights a1_kind = some r) : Fn Tryz.prog 4 [(vi a0_rights), (vi a1_kind)] [] [] (fun v D' G' => v = (vb r) ∧ D' = [] ∧ G' = []) := by
  unfold law20_TenantRights at H
  refine fn_of Tryz.func4 rfl Tryz.ntmps4 rfl ?_
  intro w0 D0 G0
  dsimp only [app, initEnv, Nat.zero_add, Nat.reduceAdd]
  refine s_seq ?_
  refine s_reg [0] rfl ?_
  refine o_run ft [0] rfl rfl ?_
  refine o_nil ?_
  refine q_then ?_
  refine s_seq ?_
  refine s_reg [0, 1] rfl ?_
  obtain ⟨r1, Hc2, H⟩ := bind_some' H
  refine oc (k_call (c_law20_alive  r1 Hc2) Tryz.call9 rfl rfl rfl [] [] rfl rfl (g0 rfl) rfl rfl ?_)
  rintro _ _ _ ⟨rfl, rfl, rfl⟩
  dsimp only [app]
  refine o_run ft [1] rfl rfl ?_
  refine o_nil ?_
  refine q_then ?_
  refine s_seq ?_
  refine s_seq ?_
  refine s_reg [0, 1, 2, 3, 4, 5, 6, 7, 8, 9] rfl ?_
  refine o_run ft [0, 1, 2] rfl rfl ?_
  refine k_name 18 rfl ?_
  intro b3 hb4
  have H := bnd_eq H hb4
  refine o_jb 21 [6, 7, 8, 9] [0, 1, 4, 5, 15, 16, 17, 18] H rfl ?_ ?_
  · intro x6 H
    refine o_run ft [6] rfl rfl ?_
    refine k_name 22 rfl ?_
    intro b7 hb8
    have H := bnd_eq H hb8
    refine o_jb 25 [] [0, 1, 4, 5, 15, 16, 17, 18, 21, 22] H rfl ?_ ?_
    · intro x10 H
      refine o_nil ?_
      refine q_then ?_
      refine s_cond rfl ?_ ?_
      · intro hb11
        have H := cnd_t H hb11
        refine s_seq ?_
        refine s_reg [0, 1] rfl ?_
        refine o_run ft [0, 1] rfl rfl ?_
        refine o_nil ?_
        refine q_then ?_
        refine s_ret ?_
        refine q_then_r ?_
        cases H
        exact q_end (rs_1 Tryz.results4 (rv_tmp rfl)) ⟨rfl, rfl, rfl⟩ [] rfl 0 rfl [] rfl 0 rfl
      · intro hb11
        have H := cnd_f H hb11
        refine s_skip ?_
        refine q_then ?_
        refine s_seq ?_
        refine s_reg [0, 1, 2] rfl ?_
        obtain ⟨r12, Hc13, H⟩ := bind_some' H
        refine oc (k_call (c_law20_config 5 r12 Hc13) Tryz.call10 rfl rfl rfl [] [] rfl rfl (g0 rfl) rfl rfl ?_)
        rintro _ _ _ ⟨A14, c15, A16, c17, rfl, rfl, rfl⟩
        dsimp only [app]
        refine oc (k_alloc rfl rfl Tryz.zeroValue25 (cs := [vs [], .slice none 0 0, vi 0, vi 0, vi 0, vi 0, .slice none 0 0]) rfl (g0 rfl) rfl rfl ?_)
        intro b18
        refine oc (k_st (j := 0) rfl rfl rfl rfl (vs := [vs r12.Name, .slice A14 r12.Key.length c15, vi r12.Slot, vi r12.Budget, vi r12.Quota, vi r12.Rights, .slice A16 r12.First.length c17]) rfl (sz rfl Tryz.sizeOf25) rfl 0 rfl (spl_all rfl) rfl (g0 rfl) rfl ?_)
        refine o_nil ?_
        refine q_then ?_
        refine s_seq ?_
        refine s_reg [0, 1, 2] rfl ?_
        refine o_run ft [0, 1] rfl rfl ?_
        refine oc (k_st (j := 5) rfl rfl rfl rfl (vs := [vi a0_rights]) rfl (sz rfl Tryz.sizeOf3) rfl 0 rfl (spl_lit (j := 5) (cs' := [vs r12.Name, .slice A14 r12.Key.length c15, vi r12.Slot, vi r12.Budget, vi r12.Quota, vi a0_rights, .slice A16 r12.First.length c17]) rfl rfl) rfl (g0 rfl) rfl ?_)
        refine o_nil ?_
        refine q_then ?_
        refine s_seq ?_
        refine s_reg [0, 1, 2, 3] rfl ?_
        refine o_run ft [0] rfl rfl ?_
        refine o_pu rfl (ev_build (cs := CapS.cells (⟨a0_rights, 0, 8⟩ : CapS)) rfl rfl Tryz.zeroValue28 Tryz.runUnderlying28 pl28 (show Instr.fill _ (CapS.cells CapS.zero : List Value).toArray _ = some _ from (fill_cons rfl (s := [vi a0_rights]) rfl rfl (CapS.set_Rights _ a0_rights) (fill_cons rfl (s := [vi 8]) rfl rfl (CapS.set_Len _ 8) fill_nil)))) (g0 rfl) rfl rfl ?_
        refine oc (k_alloc rfl rfl Tryz.zeroValue28 (cs := CapS.cells CapS.zero) rfl (g0 rfl) rfl rfl ?_)
        intro b19
        refine oc (k_st (j := 0) rfl rfl rfl rfl (vs := CapS.cells (⟨a0_rights, 0, 8⟩ : CapS)) rfl (sz (CapS.len _) Tryz.sizeOf28) (CapS.sc _) 0 rfl (spl_all ((CapS.len _).trans (CapS.len _).symm)) rfl (g0 rfl) rfl ?_)
        refine o_nil ?_
        refine q_then ?_
        refine s_seq ?_
        refine s_reg [0, 1] rfl ?_
        obtain ⟨r20, Hc21, H⟩ := bind_some' H
        refine oc (k_call (c_nor_New 8 r20 Hc21) Tryz.call11 rfl rfl rfl [] [] rfl rfl (g0 rfl) rfl rfl ?_)
        rintro _ _ _ ⟨b22, g23, rfl, rfl, rfl⟩
        dsimp only [app]
        refine o_run ft [1] rfl rfl ?_
        refine o_nil ?_
        refine q_then ?_
        refine s_seq ?_
        refine s_reg [0, 1, 2, 3] rfl ?_
        refine o_run ft [0] rfl rfl ?_
        refine o_ld (hG 1 rfl) rfl (ev_ldN (j := 0) rfl rfl Tryz.isAgg28 (sz (CapS.len _) Tryz.sizeOf28) (sub_all _) rfl) (g0 rfl) rfl rfl ?_
        refine o_ld (hG 2 rfl) rfl (ev_ldN (j := 0) (s := [vs r12.Name, .slice A14 r12.Key.length c15, vi r12.Slot, vi r12.Budget, vi r12.Quota, vi a0_rights, .slice A16 r12.First.length c17]) rfl rfl Tryz.isAgg25 (sz rfl Tryz.sizeOf25) (sub_all _) rfl) (g0 rfl) rfl rfl ?_
        obtain ⟨r24, Hc25, H⟩ := bind_some' H
        refine oc (k_call (c_tenant_Setup b22 r20 g23 (⟨a0_rights, 0, 8⟩ : CapS) (⟨r12.Name, r12.Key, r12.Slot, r12.Budget, r12.Quota, a0_rights, r12.First⟩ : Config) A14 c15 A16 c17 r24 Hc25) Tryz.call12 rfl rfl rfl [0, 1] [0] rfl rfl (g0 rfl) rfl rfl ?_)
        rintro _ _ _ ⟨g26, rfl, rfl, rfl⟩
        dsimp only [app]
        refine o_nil ?_
        refine q_then ?_
        refine s_seq ?_
        refine s_reg [0, 1, 2, 3, 4, 5, 6, 7, 8] rfl ?_
        refine o_run ft [0] rfl rfl ?_
        refine o_ld (hG 1 rfl) rfl (ev_ldN (j := 0) rfl rfl Tryz.isAgg28 (sz (CapS.len _) Tryz.sizeOf28) (sub_all _) rfl) (g0 rfl) rfl rfl ?_
        refine o_ld (hG 2 rfl) rfl (ev_ldN (j := 0) (s := [vs r12.Name, .slice A14 r12.Key.length c15, vi r12.Slot, vi r12.Budget, vi r12.Quota, vi a0_rights, .slice A16 r12.First.length c17]) rfl rfl Tryz.isAgg25 (sz rfl Tryz.sizeOf25) (sub_all _) rfl) (g0 rfl) rfl rfl ?_
        obtain ⟨r27, Hc28, H⟩ := bind_some' H
        refine oc (k_call (c_tenant_Open b22 r24.2 g26 (⟨a0_rights, 0, 8⟩ : CapS) (⟨r12.Name, r12.Key, r12.Slot, r12.Budget, r12.Quota, a0_rights, r12.First⟩ : Config) A14 c15 A16 c17 r27 Hc28) Tryz.call13 rfl rfl rfl [0, 1] [0] rfl rfl (g0 rfl) rfl rfl ?_)
        intro v29 D30 G31 hp32
        rcases hr33 : r27.1 with _ | x34
        · have H := optc_n H hr33
          obtain ⟨rfl, rfl, rfl⟩ := hp32.1 hr33
          dsimp only [app]
          refine o_run ft [4, 5, 6, 7, 8] rfl rfl ?_
          refine o_nil ?_
          refine q_then ?_
          refine s_seq ?_
          refine s_seq ?_
          refine s_reg [0, 1, 2, 3, 4, 5, 6] rfl ?_
          refine o_run ft [0] rfl rfl ?_
          obtain ⟨r35, Hc36, H⟩ := bind_some' H
          refine oc (k_call (c_law20_num r27.2 r35 Hc36) Tryz.call14 rfl rfl rfl [] [] rfl rfl (g0 rfl) rfl rfl ?_)
          rintro _ _ _ ⟨rfl, rfl, rfl⟩
          dsimp only [app]
          refine o_run ft [2, 3] rfl rfl ?_
          refine k_name 47 rfl ?_
          intro b37 hb38
          have H := bnd_eq H hb38
          refine o_jb 50 [] [0, 1, 4, 5, 6, 7, 8, 9, 10, 15, 16, 17, 18, 21, 22, 25, 27, 28, 29, 30, 31, 32, 33, 34, 35, 36, 37, 38, 39, 40, 41, 42, 43, 44, 45, 46, 47] H rfl ?_ ?_
          · intro x40 H
            refine o_nil ?_
            refine q_then ?_
            refine s_cond rfl ?_ ?_
            · intro hb41
              have H := cnd_t H hb41
              refine s_seq ?_
              refine s_reg [0] rfl ?_
              refine o_run ft [0] rfl rfl ?_
              refine o_nil ?_
              refine q_then ?_
              refine s_ret ?_
              refine q_then_r ?_
              cases H
              exact q_end (rs_1 Tryz.results4 (rv_tmp rfl)) ⟨rfl, rfl, rfl⟩ [] rfl 2 rfl [] rfl 3 rfl
            · intro hb41
              have H := cnd_f H hb41
              refine s_skip ?_
              refine q_then ?_
              refine s_seq ?_
              refine s_reg [0, 1, 2, 3] rfl ?_
              refine o_run ft [0] rfl rfl ?_
              obtain ⟨r42, Hc43, H⟩ := bind_some' H
              refine oc (k_call (c_tenant_Tenant_Meta_n0  r42 Hc43) Tryz.call19 rfl rfl rfl [] [] rfl rfl (g0 rfl) rfl rfl ?_)
              rintro _ _ _ ⟨rfl, rfl, rfl⟩
              dsimp only [app]
              refine oc (k_alloc rfl rfl Tryz.zeroValue52 (cs := MetaS.cells MetaS.zero) rfl (g0 rfl) rfl rfl ?_)
              intro b44
              refine oc (k_st (j := 0) rfl rfl rfl rfl (vs := MetaS.cells r42) rfl (sz (MetaS.len _) Tryz.sizeOf52) (MetaS.sc _) 0 rfl (spl_all ((MetaS.len _).trans (MetaS.len _).symm)) rfl (g0 rfl) rfl ?_)
              refine o_nil ?_
              refine q_then ?_
              refine s_seq ?_
              refine s_reg [0, 1, 2, 3, 4, 5, 6, 7, 8, 9] rfl ?_
              refine o_run ft [0, 1] rfl rfl ?_
              refine o_pu rfl (ev_build (cs := [vi a1_kind, vi 0, .slice none 0 0]) rfl rfl Tryz.zeroValue44 Tryz.runUnderlying44 pl44 (show Instr.fill _ ([vi 0, vi 0, .slice none 0 0] : List Value).toArray _ = some _ from (fill_cons rfl (s := [vi a1_kind]) rfl rfl (spl_lit (j := 0) (cs' := [vi a1_kind, vi 0, .slice none 0 0]) rfl rfl) fill_nil))) (g0 rfl) rfl rfl ?_
              refine k_nil_sl E8 ?_
              obtain ⟨r45, Hc46, H⟩ := bind_some' H
              refine oc (k_call (c_tenant_Tenant_Do_n0 (⟨a1_kind, 0, []⟩ : Req) none 0 r45 Hc46) Tryz.call16 rfl rfl rfl [0] [] rfl rfl (g0 rfl) rfl rfl ?_)
              rintro _ _ _ ⟨rfl, rfl, rfl⟩
              dsimp only [app]
              refine o_run ft [4, 5, 6] rfl rfl ?_
              refine oc (k_alloc rfl rfl Tryz.zeroValue40 (cs := RespS.cells RespS.zero) rfl (g0 rfl) rfl rfl ?_)
              intro b47
              refine oc (k_st (j := 0) rfl rfl rfl rfl (vs := RespS.cells r45.1) rfl (sz (RespS.len _) Tryz.sizeOf40) (RespS.sc _) 0 rfl (spl_all ((RespS.len _).trans (RespS.len _).symm)) rfl (g0 rfl) rfl ?_)
              refine o_run ft [9] rfl rfl ?_
              refine o_nil ?_
              refine q_then ?_
              refine s_seq ?_
              refine s_reg [0, 1, 2, 3, 4, 5, 6, 7, 8, 9, 10, 11, 12, 13, 14, 15] rfl ?_
              refine o_run ft [0, 1, 2] rfl rfl ?_
              refine k_name 62 rfl ?_
              intro b48 hb49
              have H := bnd_eq H hb49
              refine o_jb 65 [6, 7, 8, 9, 10, 11, 12, 13, 14, 15] [0, 1, 4, 5, 6, 7, 8, 9, 10, 11, 12, 13, 15, 16, 17, 18, 21, 22, 25, 27, 28, 29, 30, 31, 32, 33, 34, 35, 36, 37, 38, 39, 40, 41, 42, 43, 44, 45, 46, 47, 50, 51, 52, 53, 54, 55, 56, 57, 58, 59, 60, 61, 62] H rfl ?_ ?_
              · intro x51 H
                refine o_run ft [6] rfl rfl ?_
                refine k_name 66 rfl ?_
                intro b52 hb53
                have H := bnd_eq H hb53
                refine o_jb 74 [15] [0, 1, 4, 5, 6, 7, 8, 9, 10, 11, 12, 13, 15, 16, 17, 18, 21, 22, 25, 27, 28, 29, 30, 31, 32, 33, 34, 35, 36, 37, 38, 39, 40, 41, 42, 43, 44, 45, 46, 47, 50, 51, 52, 53, 54, 55, 56, 57, 58, 59, 60, 61, 62, 65, 66] H rfl ?_ ?_
                · intro x55 H
                  refine o_run ft [15] rfl rfl ?_
                  refine o_nil ?_
                  refine q_then ?_
                  refine s_seq ?_
                  refine q_join (fun (x57 : Bool) (y58 : Unit) => ⟨Sl E8 none 0 [] :: Sl E8 A16 c17 r12.First :: Sl E8 A14 c15 r12.Key :: D0, At b47 0 (RespS.cells r45.1) :: At b44 0 (MetaS.cells r42) :: At b19 0 (CapS.cells (⟨a0_rights, 0, 8⟩ : CapS)) :: At b18 0 [vs r12.Name, .slice A14 r12.Key.length c15, vi r12.Slot, vi r12.Budget, vi r12.Quota, vi a0_rights, .slice A16 r12.First.length c17] :: FlashT g26 b22 r24.2 :: G0, [(4, (vb x57))]⟩) H ?_ ?_
                  · intro x57 y58 H
                    dsimp only
                    refine q_then ?_
                    refine s_ret ?_
                    cases H
                    exact q_end (rs_1 Tryz.results4 (rv_tmp rfl)) ⟨rfl, rfl, rfl⟩ [] rfl 3 rfl [] rfl 5 rfl
                  · intro J56 J56h H
                    refine s_draw mixed [(3, [], Has b47 0 (RespS.cells r45.1)), (12, [], Has b44 0 (MetaS.cells r42))] ?_
                    refine a_run ft [0, 1] rfl (fun _ _ _ _ _ h => h) (by kernel_rfl) rfl ?_
                    refine k_name 76 rfl ?_
                    intro b59 hb60
                    have H := bnd_eq H hb60
                    cases b59 with
                    | true =>
                      rw [cond_true] at H
                      refine a_run ft [2] rfl (fun _ _ _ _ _ h => h) (by kernel_rfl) rfl ?_
                      refine a_l1 3 0 rfl (by kernel_rfl) rfl (ev_ld1 (j := 0) rfl rfl Tryz.isAgg31 (RespS.sub_Err _) rfl) (fun _ _ _ h => h) (g1 rfl rfl rfl rfl) rfl rfl ?_
                      refine a_run ft [4, 5, 6] rfl (fun _ _ _ _ _ h => h) (by kernel_rfl) rfl ?_
                      refine a_p1 7 (by kernel_rfl) rfl (ev_bin rfl rfl rfl rfl (eql_b _ _ Tryz.runUnderlying4)) (fun _ _ _ h => h) (g1 rfl rfl rfl rfl) rfl rfl ?_
                      refine a_run ft [8, 9] rfl (fun _ _ _ _ _ h => h) (by kernel_rfl) rfl ?_
                      refine k_name 84 rfl ?_
                      intro b61 hb62
                      have H := bnd_eq H hb62
                      cases b61 with
                      | true =>
                        rw [cond_true] at H
                        refine a_run ft [10] rfl (fun _ _ _ _ _ h => h) (by kernel_rfl) rfl ?_
                        refine a_l1 12 1 rfl (by kernel_rfl) rfl (ev_ldN (j := 0) rfl rfl Tryz.isAgg52 (sz (MetaS.len _) Tryz.sizeOf52) (sub_all _) rfl) (fun _ _ _ h => h) (g1 rfl rfl rfl rfl) rfl rfl ?_
                        refine ac 11 (by kernel_rfl) (sl_cons (hG 0 rfl) (sl_cons (hG 1 rfl) sl_nil)) ?_
                        obtain ⟨r63, Hc64, H⟩ := bind_some' H
                        refine k_call (c_tenant_Tenant_Meta_n0  r63 Hc64) Tryz.call19 rfl rfl rfl [] [] rfl rfl (g1 rfl rfl rfl rfl) rfl rfl ?_
                        rintro _ _ _ ⟨rfl, rfl, rfl⟩
                        dsimp only [app]
                        refine a_p1 13 (by kernel_rfl) rfl (ev_eqA (f := MetaS.cells) (X := r63) (Y := r42) rfl rfl rfl eqT52 rfl Tryz.isAgg52 Tryz.sizeOf52 MetaS.len eqG52) (fun _ _ _ h => h) (g1 rfl rfl rfl rfl) rfl rfl ?_
                        refine a_run ft [14, 15] rfl (fun _ _ _ _ _ h => h) (by kernel_rfl) rfl ?_
                        refine a_done (by kernel_rfl) (sl_cons (hG 0 rfl) (sl_cons (hG 1 rfl) sl_nil)) ?_
                        exact k_wk (J56h (decide (r63 = r42)) () H) [4] [0, 1, 2] 3 [0, 0, 1, 1, 0] 0 rfl rfl rfl
                      | false =>
                        rw [cond_false] at H
                        refine a_run ft [10, 11, 12, 13, 14, 15] rfl (fun _ _ _ _ _ h => h) (by kernel_rfl) rfl ?_
                        refine a_done (by kernel_rfl) (sl_cons (hG 0 rfl) (sl_cons (hG 1 rfl) sl_nil)) ?_
                        exact k_wk (J56h false () H) [4] [0, 1, 2] 3 [0, 0, 1, 1, 0] 0 rfl rfl rfl
                    | false =>
                      rw [cond_false] at H
                      refine a_run ft [2, 3, 4, 5, 6, 7, 8, 9, 10, 11, 12, 13, 14, 15] rfl (fun _ _ _ _ _ h => h) (by kernel_rfl) rfl ?_
                      refine a_done (by kernel_rfl) (sl_cons (hG 0 rfl) (sl_cons (hG 1 rfl) sl_nil)) ?_
                      exact k_wk (J56h false () H) [4] [0, 1, 2] 3 [0, 0, 1, 1, 0] 0 rfl rfl rfl
                · intro J54 J54h H
                  cases b52 with
                  | true =>
                    rw [cond_true] at H
                    refine o_run ft [7, 8] rfl rfl ?_
                    refine o_pu rfl (ev_bin rfl rfl rfl rfl (and_i _ 15)) (g1 rfl rfl rfl rfl) rfl rfl ?_
                    refine o_pu rfl (ev_conv rfl rfl (conv_i_u64 _ Tryz.runUnderlying3 Tryz.runUnderlying55)) (g1 rfl rfl rfl rfl) rfl rfl ?_
                    refine o_pu rfl (ev_bin rfl rfl rfl rfl (shr_iu _ _)) (g1 rfl rfl rfl rfl) rfl rfl ?_
                    refine o_pu rfl (ev_bin rfl rfl rfl rfl (and_i _ 1)) (g1 rfl rfl rfl rfl) rfl rfl ?_
                    refine o_run ft [13, 14] rfl rfl ?_
                    exact k_wk (J54h ((iand (ishr a0_rights ((UInt64.ofInt (iand a1_kind 15)) : UInt64).toNat) 1) == 1) H) [74, 0, 1, 4, 5, 6, 7, 8, 9, 10, 11, 12, 13, 15, 16, 17, 18, 21, 22, 25, 27, 28, 29, 30, 31, 32, 33, 34, 35, 36, 37, 38, 39, 40, 41, 42, 43, 44, 45, 46, 47, 50, 51, 52, 53, 54, 55, 56, 57, 58, 59, 60, 61, 62, 65, 66] [0, 1, 2] 3 [0, 0, 0, 0, 0] 0 rfl rfl rfl
                  | false =>
                    rw [cond_false] at H
                    refine o_gnot rfl rfl rfl rfl rfl rfl rfl rfl ?_
                    refine o_gnot rfl rfl rfl rfl rfl rfl rfl rfl ?_
                    refine o_gnot rfl rfl rfl rfl rfl rfl rfl rfl ?_
                    refine o_gnot rfl rfl rfl rfl rfl rfl rfl rfl ?_
                    refine o_gnot rfl rfl rfl rfl rfl rfl rfl rfl ?_
                    refine o_gnot rfl rfl rfl rfl rfl rfl rfl rfl ?_
                    refine o_gnot rfl rfl rfl rfl rfl rfl rfl rfl ?_
                    refine o_run ft [14] rfl rfl ?_
                    exact k_wk (J54h false H) [74, 0, 1, 4, 5, 6, 7, 8, 9, 10, 11, 12, 13, 15, 16, 17, 18, 21, 22, 25, 27, 28, 29, 30, 31, 32, 33, 34, 35, 36, 37, 38, 39, 40, 41, 42, 43, 44, 45, 46, 47, 50, 51, 52, 53, 54, 55, 56, 57, 58, 59, 60, 61, 62, 65, 66] [0, 1, 2] 3 [0, 0, 0, 0, 0] 0 rfl rfl rfl
              · intro J50 J50h H
                cases b48 with
                | true =>
                  rw [cond_true] at H
                  refine o_run ft [3, 4, 5] rfl rfl ?_
                  exact k_wk (J50h (decide (a1_kind ≤ 9)) H) [65, 0, 1, 4, 5, 6, 7, 8, 9, 10, 11, 12, 13, 15, 16, 17, 18, 21, 22, 25, 27, 28, 29, 30, 31, 32, 33, 34, 35, 36, 37, 38, 39, 40, 41, 42, 43, 44, 45, 46, 47, 50, 51, 52, 53, 54, 55, 56, 57, 58, 59, 60, 61, 62] [0, 1, 2] 3 [0, 0, 0, 0, 0] 0 rfl rfl rfl
                | false =>
                  rw [cond_false] at H
                  refine o_gnot rfl rfl rfl rfl rfl rfl rfl rfl ?_
                  refine o_gnot rfl rfl rfl rfl rfl rfl rfl rfl ?_
                  refine o_run ft [5] rfl rfl ?_
                  exact k_wk (J50h false H) [65, 0, 1, 4, 5, 6, 7, 8, 9, 10, 11, 12, 13, 15, 16, 17, 18, 21, 22, 25, 27, 28, 29, 30, 31, 32, 33, 34, 35, 36, 37, 38, 39, 40, 41, 42, 43, 44, 45, 46, 47, 50, 51, 52, 53, 54, 55, 56, 57, 58, 59, 60, 61, 62] [0, 1, 2] 3 [0, 0, 0, 0, 0] 0 rfl rfl rfl
          · intro J39 J39h H
            cases b37 with
            | true =>
              rw [cond_true] at H
              refine o_gnot rfl rfl rfl rfl rfl rfl rfl rfl ?_
              refine o_gnot rfl rfl rfl rfl rfl rfl rfl rfl ?_
              refine o_run ft [6] rfl rfl ?_
              exact k_wk (J39h true H) [50, 0, 1, 4, 5, 6, 7, 8, 9, 10, 15, 16, 17, 18, 21, 22, 25, 27, 28, 29, 30, 31, 32, 33, 34, 35, 36, 37, 38, 39, 40, 41, 42, 43, 44, 45, 46, 47] [0, 1] 2 [0, 0, 0] 0 rfl rfl rfl
            | false =>
              rw [cond_false] at H
              refine o_run ft [4] rfl rfl ?_
              refine o_pu rfl (ev_bin rfl rfl rfl rfl (eql_ptr_nn Tryz.runUnderlying33)) (g1 rfl rfl rfl rfl) rfl rfl ?_
              refine o_run ft [6] rfl rfl ?_
              exact k_wk (J39h true H) [50, 0, 1, 4, 5, 6, 7, 8, 9, 10, 15, 16, 17, 18, 21, 22, 25, 27, 28, 29, 30, 31, 32, 33, 34, 35, 36, 37, 38, 39, 40, 41, 42, 43, 44, 45, 46, 47] [0, 1] 2 [0, 0, 0] 0 rfl rfl rfl
        · have H := optc_s H hr33
          obtain ⟨b65, g66, rfl, rfl, rfl⟩ := hp32.2 x34 hr33
          dsimp only [app]
          refine o_run ft [4, 5, 6, 7, 8] rfl rfl ?_
          refine o_nil ?_
          refine q_then ?_
          refine s_seq ?_
          refine s_seq ?_
          refine s_reg [0, 1, 2, 3, 4, 5, 6] rfl ?_
          refine o_run ft [0] rfl rfl ?_
          obtain ⟨r67, Hc68, H⟩ := bind_some' H
          refine oc (k_call (c_law20_num r27.2 r67 Hc68) Tryz.call14 rfl rfl rfl [] [] rfl rfl (g0 rfl) rfl rfl ?_)
          rintro _ _ _ ⟨rfl, rfl, rfl⟩
          dsimp only [app]
          refine o_run ft [2, 3] rfl rfl ?_
          refine k_name 47 rfl ?_
          intro b69 hb70
          have H := bnd_eq H hb70
          refine o_jb 50 [] [0, 1, 4, 5, 6, 7, 8, 9, 10, 15, 16, 17, 18, 21, 22, 25, 27, 28, 29, 30, 31, 32, 33, 34, 35, 36, 37, 38, 39, 40, 41, 42, 43, 44, 45, 46, 47] H rfl ?_ ?_
          · intro x72 H
            refine o_nil ?_
            refine q_then ?_
            refine s_cond rfl ?_ ?_
            · intro hb73
              have H := cnd_t H hb73
              refine s_seq ?_
              refine s_reg [0] rfl ?_
              refine o_run ft [0] rfl rfl ?_
              refine o_nil ?_
              refine q_then ?_
              refine s_ret ?_
              refine q_then_r ?_
              cases H
              exact q_end (rs_1 Tryz.results4 (rv_tmp rfl)) ⟨rfl, rfl, rfl⟩ [] rfl 2 rfl [] rfl 4 rfl
            · intro hb73
              have H := cnd_f H hb73
              refine s_skip ?_
              refine q_then ?_
              refine s_seq ?_
              refine s_reg [0, 1, 2, 3] rfl ?_
              refine o_run ft [0] rfl rfl ?_
              obtain ⟨r74, Hc75, H⟩ := bind_some' H
              refine oc (k_call (c_tenant_Tenant_Meta b22 b65 x34 g66 r74 Hc75) Tryz.call19 rfl rfl rfl [] [0] rfl rfl (g0 rfl) rfl rfl ?_)
              rintro _ _ _ ⟨rfl, rfl, rfl⟩
              dsimp only [app]
              refine oc (k_alloc rfl rfl Tryz.zeroValue52 (cs := MetaS.cells MetaS.zero) rfl (g0 rfl) rfl rfl ?_)
              intro b76
              refine oc (k_st (j := 0) rfl rfl rfl rfl (vs := MetaS.cells r74) rfl (sz (MetaS.len _) Tryz.sizeOf52) (MetaS.sc _) 0 rfl (spl_all ((MetaS.len _).trans (MetaS.len _).symm)) rfl (g0 rfl) rfl ?_)
              refine o_nil ?_
              refine q_then ?_
              refine s_seq ?_
              refine s_reg [0, 1, 2, 3, 4, 5, 6, 7, 8, 9] rfl ?_
              refine o_run ft [0, 1] rfl rfl ?_
              refine o_pu rfl (ev_build (cs := [vi a1_kind, vi 0, .slice none 0 0]) rfl rfl Tryz.zeroValue44 Tryz.runUnderlying44 pl44 (show Instr.fill _ ([vi 0, vi 0, .slice none 0 0] : List Value).toArray _ = some _ from (fill_cons rfl (s := [vi a1_kind]) rfl rfl (spl_lit (j := 0) (cs' := [vi a1_kind, vi 0, .slice none 0 0]) rfl rfl) fill_nil))) (g0 rfl) rfl rfl ?_
              refine k_nil_sl E8 ?_
              obtain ⟨r77, Hc78, H⟩ := bind_some' H
              refine oc (k_call (c_tenant_Tenant_Do b22 b65 x34 g66 (⟨a1_kind, 0, []⟩ : Req) none 0 r24.2 g26 r77 Hc78) Tryz.call16 rfl rfl rfl [0] [1, 1] rfl rfl (g0 rfl) rfl rfl ?_)
              rintro _ _ _ ⟨g79, g80, rfl, rfl, rfl⟩
              dsimp only [app]
              refine o_run ft [4, 5, 6] rfl rfl ?_
              refine oc (k_alloc rfl rfl Tryz.zeroValue40 (cs := RespS.cells RespS.zero) rfl (g0 rfl) rfl rfl ?_)
              intro b81
              refine oc (k_st (j := 0) rfl rfl rfl rfl (vs := RespS.cells r77.1) rfl (sz (RespS.len _) Tryz.sizeOf40) (RespS.sc _) 0 rfl (spl_all ((RespS.len _).trans (RespS.len _).symm)) rfl (g0 rfl) rfl ?_)
              refine o_run ft [9] rfl rfl ?_
              refine o_nil ?_
              refine q_then ?_
              refine s_seq ?_
              refine s_reg [0, 1, 2, 3, 4, 5, 6, 7, 8, 9, 10, 11, 12, 13, 14, 15] rfl ?_
              refine o_run ft [0, 1, 2] rfl rfl ?_
              refine k_name 62 rfl ?_
              intro b82 hb83
              have H := bnd_eq H hb83
              refine o_jb 65 [6, 7, 8, 9, 10, 11, 12, 13, 14, 15] [0, 1, 4, 5, 6, 7, 8, 9, 10, 11, 12, 13, 15, 16, 17, 18, 21, 22, 25, 27, 28, 29, 30, 31, 32, 33, 34, 35, 36, 37, 38, 39, 40, 41, 42, 43, 44, 45, 46, 47, 50, 51, 52, 53, 54, 55, 56, 57, 58, 59, 60, 61, 62] H rfl ?_ ?_
              · intro x85 H
                refine o_run ft [6] rfl rfl ?_
                refine k_name 66 rfl ?_
                intro b86 hb87
                have H := bnd_eq H hb87
                refine o_jb 74 [15] [0, 1, 4, 5, 6, 7, 8, 9, 10, 11, 12, 13, 15, 16, 17, 18, 21, 22, 25, 27, 28, 29, 30, 31, 32, 33, 34, 35, 36, 37, 38, 39, 40, 41, 42, 43, 44, 45, 46, 47, 50, 51, 52, 53, 54, 55, 56, 57, 58, 59, 60, 61, 62, 65, 66] H rfl ?_ ?_
                · intro x89 H
                  refine o_run ft [15] rfl rfl ?_
                  refine o_nil ?_
                  refine q_then ?_
                  refine s_seq ?_
                  refine q_join (fun (x91 : Bool) (y92 : Unit) => ⟨Sl E8 none 0 [] :: Sl E8 A16 c17 r12.First :: Sl E8 A14 c15 r12.Key :: D0, At b81 0 (RespS.cells r77.1) :: At b76 0 (MetaS.cells r74) :: At b19 0 (CapS.cells (⟨a0_rights, 0, 8⟩ : CapS)) :: At b18 0 [vs r12.Name, .slice A14 r12.Key.length c15, vi r12.Slot, vi r12.Budget, vi r12.Quota, vi a0_rights, .slice A16 r12.First.length c17] :: TenantT b22 g79 b65 r77.2.2.1 :: FlashT g80 b22 r77.2.2.2 :: G0, [(4, (vb x91))]⟩) H ?_ ?_
                  · intro x91 y92 H
                    dsimp only
                    refine q_then ?_
                    refine s_ret ?_
                    cases H
                    exact q_end (rs_1 Tryz.results4 (rv_tmp rfl)) ⟨rfl, rfl, rfl⟩ [] rfl 3 rfl [] rfl 6 rfl
                  · intro J90 J90h H
                    refine s_draw mixed [(3, [], Has b81 0 (RespS.cells r77.1)), (12, [], Has b76 0 (MetaS.cells r74))] ?_
                    refine a_run ft [0, 1] rfl (fun _ _ _ _ _ h => h) (by kernel_rfl) rfl ?_
                    refine k_name 76 rfl ?_
                    intro b93 hb94
                    have H := bnd_eq H hb94
                    cases b93 with
                    | true =>
                      rw [cond_true] at H
                      refine a_run ft [2] rfl (fun _ _ _ _ _ h => h) (by kernel_rfl) rfl ?_
                      refine a_l1 3 0 rfl (by kernel_rfl) rfl (ev_ld1 (j := 0) rfl rfl Tryz.isAgg31 (RespS.sub_Err _) rfl) (fun _ _ _ h => h) (g1 rfl rfl rfl rfl) rfl rfl ?_
                      refine a_run ft [4, 5, 6] rfl (fun _ _ _ _ _ h => h) (by kernel_rfl) rfl ?_
                      refine a_p1 7 (by kernel_rfl) rfl (ev_bin rfl rfl rfl rfl (eql_b _ _ Tryz.runUnderlying4)) (fun _ _ _ h => h) (g1 rfl rfl rfl rfl) rfl rfl ?_
                      refine a_run ft [8, 9] rfl (fun _ _ _ _ _ h => h) (by kernel_rfl) rfl ?_
                      refine k_name 84 rfl ?_
                      intro b95 hb96
                      have H := bnd_eq H hb96
                      cases b95 with
                      | true =>
                        rw [cond_true] at H
                        refine a_run ft [10] rfl (fun _ _ _ _ _ h => h) (by kernel_rfl) rfl ?_
                        refine a_l1 12 1 rfl (by kernel_rfl) rfl (ev_ldN (j := 0) rfl rfl Tryz.isAgg52 (sz (MetaS.len _) Tryz.sizeOf52) (sub_all _) rfl) (fun _ _ _ h => h) (g1 rfl rfl rfl rfl) rfl rfl ?_
                        refine ac 11 (by kernel_rfl) (sl_cons (hG 0 rfl) (sl_cons (hG 3 rfl) sl_nil)) ?_
                        obtain ⟨r97, Hc98, H⟩ := bind_some' H
                        refine k_call (c_tenant_Tenant_Meta b22 b65 r77.2.2.1 g79 r97 Hc98) Tryz.call19 rfl rfl rfl [] [1] rfl rfl (g1 rfl rfl rfl rfl) rfl rfl ?_
                        rintro _ _ _ ⟨rfl, rfl, rfl⟩
                        dsimp only [app]
                        refine a_p1 13 (by kernel_rfl) rfl (ev_eqA (f := MetaS.cells) (X := r97) (Y := r74) rfl rfl rfl eqT52 rfl Tryz.isAgg52 Tryz.sizeOf52 MetaS.len eqG52) (fun _ _ _ h => h) (g1 rfl rfl rfl rfl) rfl rfl ?_
                        refine a_run ft [14, 15] rfl (fun _ _ _ _ _ h => h) (by kernel_rfl) rfl ?_
                        refine a_done (by kernel_rfl) (sl_cons (hG 1 rfl) (sl_cons (hG 3 rfl) sl_nil)) ?_
                        exact k_wk (J90h (decide (r97 = r74)) () H) [4] [0, 1, 2] 3 [1, 2, 2, 2, 0, 0] 0 rfl rfl rfl
                      | false =>
                        rw [cond_false] at H
                        refine a_run ft [10, 11, 12, 13, 14, 15] rfl (fun _ _ _ _ _ h => h) (by kernel_rfl) rfl ?_
                        refine a_done (by kernel_rfl) (sl_cons (hG 0 rfl) (sl_cons (hG 3 rfl) sl_nil)) ?_
                        exact k_wk (J90h false () H) [4] [0, 1, 2] 3 [0, 2, 2, 2, 0, 0] 0 rfl rfl rfl
                    | false =>
                      rw [cond_false] at H
                      refine a_run ft [2, 3, 4, 5, 6, 7, 8, 9, 10, 11, 12, 13, 14, 15] rfl (fun _ _ _ _ _ h => h) (by kernel_rfl) rfl ?_
                      refine a_done (by kernel_rfl) (sl_cons (hG 0 rfl) (sl_cons (hG 3 rfl) sl_nil)) ?_
                      exact k_wk (J90h false () H) [4] [0, 1, 2] 3 [0, 2, 2, 2, 0, 0] 0 rfl rfl rfl
                · intro J88 J88h H
                  cases b86 with
                  | true =>
                    rw [cond_true] at H
                    refine o_run ft [7, 8] rfl rfl ?_
                    refine o_pu rfl (ev_bin rfl rfl rfl rfl (and_i _ 15)) (g1 rfl rfl rfl rfl) rfl rfl ?_
                    refine o_pu rfl (ev_conv rfl rfl (conv_i_u64 _ Tryz.runUnderlying3 Tryz.runUnderlying55)) (g1 rfl rfl rfl rfl) rfl rfl ?_
                    refine o_pu rfl (ev_bin rfl rfl rfl rfl (shr_iu _ _)) (g1 rfl rfl rfl rfl) rfl rfl ?_
                    refine o_pu rfl (ev_bin rfl rfl rfl rfl (and_i _ 1)) (g1 rfl rfl rfl rfl) rfl rfl ?_
                    refine o_run ft [13, 14] rfl rfl ?_
                    exact k_wk (J88h ((iand (ishr a0_rights ((UInt64.ofInt (iand a1_kind 15)) : UInt64).toNat) 1) == 1) H) [74, 0, 1, 4, 5, 6, 7, 8, 9, 10, 11, 12, 13, 15, 16, 17, 18, 21, 22, 25, 27, 28, 29, 30, 31, 32, 33, 34, 35, 36, 37, 38, 39, 40, 41, 42, 43, 44, 45, 46, 47, 50, 51, 52, 53, 54, 55, 56, 57, 58, 59, 60, 61, 62, 65, 66] [0, 1, 2] 3 [0, 0, 0, 0, 0, 0] 0 rfl rfl rfl
                  | false =>
                    rw [cond_false] at H
                    refine o_gnot rfl rfl rfl rfl rfl rfl rfl rfl ?_
                    refine o_gnot rfl rfl rfl rfl rfl rfl rfl rfl ?_
                    refine o_gnot rfl rfl rfl rfl rfl rfl rfl rfl ?_
                    refine o_gnot rfl rfl rfl rfl rfl rfl rfl rfl ?_
                    refine o_gnot rfl rfl rfl rfl rfl rfl rfl rfl ?_
                    refine o_gnot rfl rfl rfl rfl rfl rfl rfl rfl ?_
                    refine o_gnot rfl rfl rfl rfl rfl rfl rfl rfl ?_
                    refine o_run ft [14] rfl rfl ?_
                    exact k_wk (J88h false H) [74, 0, 1, 4, 5, 6, 7, 8, 9, 10, 11, 12, 13, 15, 16, 17, 18, 21, 22, 25, 27, 28, 29, 30, 31, 32, 33, 34, 35, 36, 37, 38, 39, 40, 41, 42, 43, 44, 45, 46, 47, 50, 51, 52, 53, 54, 55, 56, 57, 58, 59, 60, 61, 62, 65, 66] [0, 1, 2] 3 [0, 0, 0, 0, 0, 0] 0 rfl rfl rfl
              · intro J84 J84h H
                cases b82 with
                | true =>
                  rw [cond_true] at H
                  refine o_run ft [3, 4, 5] rfl rfl ?_
                  exact k_wk (J84h (decide (a1_kind ≤ 9)) H) [65, 0, 1, 4, 5, 6, 7, 8, 9, 10, 11, 12, 13, 15, 16, 17, 18, 21, 22, 25, 27, 28, 29, 30, 31, 32, 33, 34, 35, 36, 37, 38, 39, 40, 41, 42, 43, 44, 45, 46, 47, 50, 51, 52, 53, 54, 55, 56, 57, 58, 59, 60, 61, 62] [0, 1, 2] 3 [0, 0, 0, 0, 0, 0] 0 rfl rfl rfl
                | false =>
                  rw [cond_false] at H
                  refine o_gnot rfl rfl rfl rfl rfl rfl rfl rfl ?_
                  refine o_gnot rfl rfl rfl rfl rfl rfl rfl rfl ?_
                  refine o_run ft [5] rfl rfl ?_
                  exact k_wk (J84h false H) [65, 0, 1, 4, 5, 6, 7, 8, 9, 10, 11, 12, 13, 15, 16, 17, 18, 21, 22, 25, 27, 28, 29, 30, 31, 32, 33, 34, 35, 36, 37, 38, 39, 40, 41, 42, 43, 44, 45, 46, 47, 50, 51, 52, 53, 54, 55, 56, 57, 58, 59, 60, 61, 62] [0, 1, 2] 3 [0, 0, 0, 0, 0, 0] 0 rfl rfl rfl
          · intro J71 J71h H
            cases b69 with
            | true =>
              rw [cond_true] at H
              refine o_gnot rfl rfl rfl rfl rfl rfl rfl rfl ?_
              refine o_gnot rfl rfl rfl rfl rfl rfl rfl rfl ?_
              refine o_run ft [6] rfl rfl ?_
              exact k_wk (J71h true H) [50, 0, 1, 4, 5, 6, 7, 8, 9, 10, 15, 16, 17, 18, 21, 22, 25, 27, 28, 29, 30, 31, 32, 33, 34, 35, 36, 37, 38, 39, 40, 41, 42, 43, 44, 45, 46, 47] [0, 1] 2 [0, 0, 0, 0] 0 rfl rfl rfl
            | false =>
              rw [cond_false] at H
              refine o_run ft [4] rfl rfl ?_
              refine o_pu rfl (ev_bin rfl rfl rfl rfl (eql_ptr_pn Tryz.runUnderlying33)) (g1 rfl rfl rfl rfl) rfl rfl ?_
              refine o_run ft [6] rfl rfl ?_
              exact k_wk (J71h false H) [50, 0, 1, 4, 5, 6, 7, 8, 9, 10, 15, 16, 17, 18, 21, 22, 25, 27, 28, 29, 30, 31, 32, 33, 34, 35, 36, 37, 38, 39, 40, 41, 42, 43, 44, 45, 46, 47] [0, 1] 2 [0, 0, 0, 0] 0 rfl rfl rfl
    · intro J9 J9h H
      cases b7 with
      | true =>
        rw [cond_true] at H
        refine o_gnot rfl rfl rfl rfl rfl rfl rfl rfl ?_
        refine o_gnot rfl rfl rfl rfl rfl rfl rfl rfl ?_
        refine o_run ft [9] rfl rfl ?_
        exact k_wk (J9h true H) [25, 0, 1, 4, 5, 15, 16, 17, 18, 21, 22] [] 0 [] 0 rfl rfl rfl
      | false =>
        rw [cond_false] at H
        refine o_run ft [7, 8, 9] rfl rfl ?_
        exact k_wk (J9h (decide (a0_rights > 1023)) H) [25, 0, 1, 4, 5, 15, 16, 17, 18, 21, 22] [] 0 [] 0 rfl rfl rfl
  · intro J5 J5h H
    cases b3 with
    | true =>
      rw [cond_true] at H
      refine o_gnot rfl rfl rfl rfl rfl rfl rfl rfl ?_
      refine o_gnot rfl rfl rfl rfl rfl rfl rfl rfl ?_
      refine o_run ft [5] rfl rfl ?_
      exact k_wk (J5h true H) [21, 0, 1, 4, 5, 15, 16, 17, 18] [] 0 [] 0 rfl rfl rfl
    | false =>
      rw [cond_false] at H
      refine o_run ft [3, 4, 5] rfl rfl ?_
      exact k_wk (J5h (decide (a0_rights < 0)) H) [21, 0, 1, 4, 5, 15, 16, 17, 18] [] 0 [] 0 rfl rfl rfl

end Go.Proofs.YtpdoioeckiiegaaGreatDoor.Wl
