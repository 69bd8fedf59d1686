import Derived.Test.YtpdoioeckiiegaaGreatDoorWlW
import Derived.Test.YtpdoioeckiiegaaGreatDoorWlX0
import Derived.Test.YtpdoioeckiiegaaGreatDoorWlX3
import Derived.Test.YtpdoioeckiiegaaGreatDoorWlX9
import Derived.Test.YtpdoioeckiiegaaGreatDoorWlX10
import Derived.Test.YtpdoioeckiiegaaGreatDoorWlX14
import Derived.Test.YtpdoioeckiiegaaGreatDoorWlX15
set_option linter.unusedSimpArgs false
set_option linter.unusedVariables false
set_option maxRecDepth 10000
namespace Go.Proofs.YtpdoioeckiiegaaGreatDoor.Wl
open Go.RowKit Go.Proofs
def law20_alive : Option Bool :=
(tenant_Tenant_Do_n0 (⟨0, 0, []⟩ : Req)).bind fun r1 =>
(nor_New (8 : Int)).bind fun r4 =>
(law20_config (5 : Int)).bind fun r8 =>
(tenant_Setup r4 (⟨1022, 0, 8⟩ : CapS) (⟨r8.Name, r8.Key, r8.Slot, r8.Budget, r8.Quota, r8.Rights, r8.First⟩ : Config)).bind fun r16 =>
(tenant_Open r16.2 (⟨1022, 0, 8⟩ : CapS) (⟨r8.Name, r8.Key, r8.Slot, r8.Budget, r8.Quota, r8.Rights, r8.First⟩ : Config)).bind fun r19 =>
optc r19.1 (
(law20_num r16.1).bind fun r27 =>
bnd (r27 != 0) fun b29 =>
jn (fun x32 =>
bnd x32 fun b33 =>
jn (fun x36 =>
bif x36 then (
some false) else (
(tenant_Tenant_Do_n0 (⟨9, 0, []⟩ : Req)).bind fun r38 =>
(law20_num r1.1.Err).bind fun r41 =>
bnd (r41 == 16) fun b43 =>
jn (fun x46 =>
bnd x46 fun b47 =>
jn (fun x50 =>
bnd x50 fun b51 =>
jn (fun x54 =>
bnd x54 fun b55 =>
jn (fun x58 =>
some x58) fun J57 =>
bif b55 then (
(tenant_Tenant_Active_n0 ).bind fun r59 =>
J57 (r59 == ([102, 105, 114, 115, 116, 32, 105, 109, 97, 103, 101] : List UInt8))) else
J57 false) fun J53 =>
bif b51 then (
J53 (decide (r38.1 = RespS.zero))) else
J53 false) fun J49 =>
bif b47 then (
J49 r38.2) else
J49 false) fun J45 =>
bif b43 then (
J45 r1.2) else
J45 false)) fun J35 =>
bif b33 then (
J35 true) else
J35 true) fun J31 =>
bif b29 then (
J31 true) else
(law20_num r19.2).bind fun r63 =>
J31 (r63 != 0)) (fun x26 =>
(law20_num r16.1).bind fun r67 =>
bnd (r67 != 0) fun b69 =>
jn (fun x72 =>
bnd x72 fun b73 =>
jn (fun x76 =>
bif x76 then (
some false) else (
(tenant_Tenant_Do x26 (⟨9, 0, []⟩ : Req) r16.2).bind fun r78 =>
(law20_num r1.1.Err).bind fun r83 =>
bnd (r83 == 16) fun b85 =>
jn (fun x88 =>
bnd x88 fun b89 =>
jn (fun x92 =>
bnd x92 fun b93 =>
jn (fun x96 =>
bnd x96 fun b97 =>
jn (fun x100 =>
some x100) fun J99 =>
bif b97 then (
(tenant_Tenant_Active r78.2.2.1 r78.2.2.2).bind fun r101 =>
J99 (r101 == ([102, 105, 114, 115, 116, 32, 105, 109, 97, 103, 101] : List UInt8))) else
J99 false) fun J95 =>
bif b93 then (
J95 (decide (r78.1 = RespS.zero))) else
J95 false) fun J91 =>
bif b89 then (
J91 r78.2.1) else
J91 false) fun J87 =>
bif b85 then (
J87 r1.2) else
J87 false)) fun J75 =>
bif b73 then (
J75 true) else
J75 false) fun J71 =>
bif b69 then (
J71 true) else
(law20_num r19.2).bind fun r105 =>
J71 (r105 != 0))

theorem c_law20_alive (r : Bool) (H : law20_alive  = some r) : Fn Tryz.prog 9 [] [] [] (fun v D' G' => v = (vb r) ∧ D' = [] ∧ G' = []) := by
  unfold law20_alive at H
  refine fn_of Tryz.func9 rfl Tryz.ntmps9 rfl ?_
  intro w0 D0 G0
  dsimp only [app, initEnv, Nat.zero_add, Nat.reduceAdd]
  refine s_seq ?_
  refine s_reg [0] rfl ?_
  refine o_run ft [0] rfl rfl ?_
  refine o_nil ?_
  refine q_then ?_
  refine s_seq ?_
  refine s_reg [0] rfl ?_
  refine o_run ft [0] rfl rfl ?_
  refine o_nil ?_
  refine q_then ?_
  refine s_seq ?_
  refine s_reg [0, 1, 2, 3, 4, 5, 6, 7, 8] rfl ?_
  refine o_run ft [0] rfl rfl ?_
  refine o_pu rfl (ev_build (cs := [vi 0, vi 0, .slice none 0 0]) rfl rfl Tryz.zeroValue44 Tryz.runUnderlying44 pl44 (show Instr.fill _ ([vi 0, vi 0, .slice none 0 0] : List Value).toArray _ = some _ from fill_nil)) (g0 rfl) rfl rfl ?_
  refine k_nil_sl E8 ?_
  obtain ⟨r1, Hc2, H⟩ := bind_some' H
  refine oc (k_call (c_tenant_Tenant_Do_n0 (⟨0, 0, []⟩ : Req) none 0 r1 Hc2) Tryz.call16 rfl rfl rfl [0] [] rfl rfl (g0 rfl) rfl rfl ?_)
  rintro _ _ _ ⟨rfl, rfl, rfl⟩
  dsimp only [app]
  refine o_run ft [3, 4, 5] rfl rfl ?_
  refine oc (k_alloc rfl rfl Tryz.zeroValue40 (cs := RespS.cells RespS.zero) rfl (g0 rfl) rfl rfl ?_)
  intro b3
  refine oc (k_st (j := 0) rfl rfl rfl rfl (vs := RespS.cells r1.1) rfl (sz (RespS.len _) Tryz.sizeOf40) (RespS.sc _) 0 rfl (spl_all ((RespS.len _).trans (RespS.len _).symm)) rfl (g0 rfl) rfl ?_)
  refine o_run ft [8] rfl rfl ?_
  refine o_nil ?_
  refine q_then ?_
  refine s_seq ?_
  refine s_reg [0, 1] rfl ?_
  obtain ⟨r4, Hc5, H⟩ := bind_some' H
  refine oc (k_call (c_nor_New 8 r4 Hc5) Tryz.call11 rfl rfl rfl [] [] rfl rfl (g0 rfl) rfl rfl ?_)
  rintro _ _ _ ⟨b6, g7, rfl, rfl, rfl⟩
  dsimp only [app]
  refine o_run ft [1] rfl rfl ?_
  refine o_nil ?_
  refine q_then ?_
  refine s_seq ?_
  refine s_reg [0, 1, 2] rfl ?_
  obtain ⟨r8, Hc9, H⟩ := bind_some' H
  refine oc (k_call (c_law20_config 5 r8 Hc9) Tryz.call10 rfl rfl rfl [] [] rfl rfl (g0 rfl) rfl rfl ?_)
  rintro _ _ _ ⟨A10, c11, A12, c13, rfl, rfl, rfl⟩
  dsimp only [app]
  refine oc (k_alloc rfl rfl Tryz.zeroValue25 (cs := [vs [], .slice none 0 0, vi 0, vi 0, vi 0, vi 0, .slice none 0 0]) rfl (g0 rfl) rfl rfl ?_)
  intro b14
  refine oc (k_st (j := 0) rfl rfl rfl rfl (vs := [vs r8.Name, .slice A10 r8.Key.length c11, vi r8.Slot, vi r8.Budget, vi r8.Quota, vi r8.Rights, .slice A12 r8.First.length c13]) rfl (sz rfl Tryz.sizeOf25) rfl 0 rfl (spl_all rfl) rfl (g0 rfl) rfl ?_)
  refine o_nil ?_
  refine q_then ?_
  refine s_seq ?_
  refine s_reg [0, 1, 2] rfl ?_
  refine o_pu rfl (ev_build (cs := CapS.cells (⟨1022, 0, 8⟩ : CapS)) rfl rfl Tryz.zeroValue28 Tryz.runUnderlying28 pl28 (show Instr.fill _ (CapS.cells CapS.zero : List Value).toArray _ = some _ from (fill_cons rfl (s := [vi 1022]) rfl rfl (CapS.set_Rights _ 1022) (fill_cons rfl (s := [vi 8]) rfl rfl (CapS.set_Len _ 8) fill_nil)))) (g0 rfl) rfl rfl ?_
  refine oc (k_alloc rfl rfl Tryz.zeroValue28 (cs := CapS.cells CapS.zero) rfl (g0 rfl) rfl rfl ?_)
  intro b15
  refine oc (k_st (j := 0) rfl rfl rfl rfl (vs := CapS.cells (⟨1022, 0, 8⟩ : CapS)) rfl (sz (CapS.len _) Tryz.sizeOf28) (CapS.sc _) 0 rfl (spl_all ((CapS.len _).trans (CapS.len _).symm)) rfl (g0 rfl) rfl ?_)
  refine o_nil ?_
  refine q_then ?_
  refine s_seq ?_
  refine s_reg [0, 1, 2, 3, 4] rfl ?_
  refine o_run ft [0] rfl rfl ?_
  refine o_ld (hG 0 rfl) rfl (ev_ldN (j := 0) rfl rfl Tryz.isAgg28 (sz (CapS.len _) Tryz.sizeOf28) (sub_all _) rfl) (g0 rfl) rfl rfl ?_
  refine o_ld (hG 1 rfl) rfl (ev_ldN (j := 0) (s := [vs r8.Name, .slice A10 r8.Key.length c11, vi r8.Slot, vi r8.Budget, vi r8.Quota, vi r8.Rights, .slice A12 r8.First.length c13]) rfl rfl Tryz.isAgg25 (sz rfl Tryz.sizeOf25) (sub_all _) rfl) (g0 rfl) rfl rfl ?_
  obtain ⟨r16, Hc17, H⟩ := bind_some' H
  refine oc (k_call (c_tenant_Setup b6 r4 g7 (⟨1022, 0, 8⟩ : CapS) (⟨r8.Name, r8.Key, r8.Slot, r8.Budget, r8.Quota, r8.Rights, r8.First⟩ : Config) A10 c11 A12 c13 r16 Hc17) Tryz.call12 rfl rfl rfl [0, 1] [2] rfl rfl (g0 rfl) rfl rfl ?_)
  rintro _ _ _ ⟨g18, rfl, rfl, rfl⟩
  dsimp only [app]
  refine o_run ft [4] rfl rfl ?_
  refine o_nil ?_
  refine q_then ?_
  refine s_seq ?_
  refine s_reg [0, 1, 2, 3, 4, 5, 6, 7, 8] rfl ?_
  refine o_run ft [0] rfl rfl ?_
  refine o_ld (hG 1 rfl) rfl (ev_ldN (j := 0) rfl rfl Tryz.isAgg28 (sz (CapS.len _) Tryz.sizeOf28) (sub_all _) rfl) (g0 rfl) rfl rfl ?_
  refine o_ld (hG 2 rfl) rfl (ev_ldN (j := 0) (s := [vs r8.Name, .slice A10 r8.Key.length c11, vi r8.Slot, vi r8.Budget, vi r8.Quota, vi r8.Rights, .slice A12 r8.First.length c13]) rfl rfl Tryz.isAgg25 (sz rfl Tryz.sizeOf25) (sub_all _) rfl) (g0 rfl) rfl rfl ?_
  obtain ⟨r19, Hc20, H⟩ := bind_some' H
  refine oc (k_call (c_tenant_Open b6 r16.2 g18 (⟨1022, 0, 8⟩ : CapS) (⟨r8.Name, r8.Key, r8.Slot, r8.Budget, r8.Quota, r8.Rights, r8.First⟩ : Config) A10 c11 A12 c13 r19 Hc20) Tryz.call13 rfl rfl rfl [0, 1] [0] rfl rfl (g0 rfl) rfl rfl ?_)
  intro v21 D22 G23 hp24
  rcases hr25 : r19.1 with _ | x26
  · have H := optc_n H hr25
    obtain ⟨rfl, rfl, rfl⟩ := hp24.1 hr25
    dsimp only [app]
    refine o_run ft [4, 5, 6, 7, 8] rfl rfl ?_
    refine o_nil ?_
    refine q_then ?_
    refine s_seq ?_
    refine s_seq ?_
    refine s_reg [0, 1, 2, 3, 4, 5, 6, 7, 8, 9, 10, 11] rfl ?_
    refine o_run ft [0] rfl rfl ?_
    obtain ⟨r27, Hc28, H⟩ := bind_some' H
    refine oc (k_call (c_law20_num r16.1 r27 Hc28) Tryz.call14 rfl rfl rfl [] [] rfl rfl (g0 rfl) rfl rfl ?_)
    rintro _ _ _ ⟨rfl, rfl, rfl⟩
    dsimp only [app]
    refine o_run ft [2, 3] rfl rfl ?_
    refine k_name 35 rfl ?_
    intro b29 hb30
    have H := bnd_eq H hb30
    refine o_jb 39 [8, 9, 10, 11] [0, 1, 2, 3, 4, 5, 6, 7, 8, 9, 12, 13, 14, 15, 16, 17, 18, 19, 20, 21, 22, 23, 24, 25, 26, 27, 28, 29, 30, 31, 32, 33, 34, 35] H rfl ?_ ?_
    · intro x32 H
      refine o_run ft [8] rfl rfl ?_
      refine k_name 40 rfl ?_
      intro b33 hb34
      have H := bnd_eq H hb34
      refine o_jb 43 [] [0, 1, 2, 3, 4, 5, 6, 7, 8, 9, 12, 13, 14, 15, 16, 17, 18, 19, 20, 21, 22, 23, 24, 25, 26, 27, 28, 29, 30, 31, 32, 33, 34, 35, 39, 40] H rfl ?_ ?_
      · intro x36 H
        refine o_nil ?_
        refine q_then ?_
        refine s_cond rfl ?_ ?_
        · intro hb37
          have H := cnd_t H hb37
          refine s_seq ?_
          refine s_reg [0] rfl ?_
          refine o_run ft [0] rfl rfl ?_
          refine o_nil ?_
          refine q_then ?_
          refine s_ret ?_
          refine q_then_r ?_
          cases H
          exact q_end (rs_1 Tryz.results9 (rv_tmp rfl)) ⟨rfl, rfl, rfl⟩ [] rfl 3 rfl [] rfl 4 rfl
        · intro hb37
          have H := cnd_f H hb37
          refine s_skip ?_
          refine q_then ?_
          refine s_seq ?_
          refine s_reg [0, 1, 2, 3, 4, 5, 6, 7, 8] rfl ?_
          refine o_run ft [0] rfl rfl ?_
          refine o_pu rfl (ev_build (cs := [vi 9, vi 0, .slice none 0 0]) rfl rfl Tryz.zeroValue44 Tryz.runUnderlying44 pl44 (show Instr.fill _ ([vi 0, vi 0, .slice none 0 0] : List Value).toArray _ = some _ from (fill_cons rfl (s := [vi 9]) rfl rfl (spl_lit (j := 0) (cs' := [vi 9, vi 0, .slice none 0 0]) rfl rfl) fill_nil))) (g0 rfl) rfl rfl ?_
          obtain ⟨r38, Hc39, H⟩ := bind_some' H
          refine oc (k_call (c_tenant_Tenant_Do_n0 (⟨9, 0, []⟩ : Req) none 0 r38 Hc39) Tryz.call16 rfl rfl rfl [2] [] rfl rfl (g0 rfl) rfl rfl ?_)
          rintro _ _ _ ⟨rfl, rfl, rfl⟩
          dsimp only [app]
          refine o_run ft [3, 4, 5] rfl rfl ?_
          refine oc (k_alloc rfl rfl Tryz.zeroValue40 (cs := RespS.cells RespS.zero) rfl (g0 rfl) rfl rfl ?_)
          intro b40
          refine oc (k_st (j := 0) rfl rfl rfl rfl (vs := RespS.cells r38.1) rfl (sz (RespS.len _) Tryz.sizeOf40) (RespS.sc _) 0 rfl (spl_all ((RespS.len _).trans (RespS.len _).symm)) rfl (g0 rfl) rfl ?_)
          refine o_run ft [8] rfl rfl ?_
          refine o_nil ?_
          refine q_then ?_
          refine s_seq ?_
          refine s_reg [0, 1, 2, 3, 4, 5, 6, 7, 8, 9, 10, 11, 12, 13, 14, 15, 16, 17, 18, 19, 20, 21] rfl ?_
          refine o_run ft [0] rfl rfl ?_
          refine o_ld (hG 4 rfl) rfl (ev_ld1 (j := 0) rfl rfl Tryz.isAgg31 (RespS.sub_Err _) rfl) (g0 rfl) rfl rfl ?_
          obtain ⟨r41, Hc42, H⟩ := bind_some' H
          refine oc (k_call (c_law20_num r1.1.Err r41 Hc42) Tryz.call14 rfl rfl rfl [] [] rfl rfl (g0 rfl) rfl rfl ?_)
          rintro _ _ _ ⟨rfl, rfl, rfl⟩
          dsimp only [app]
          refine o_run ft [3, 4] rfl rfl ?_
          refine k_name 54 rfl ?_
          intro b43 hb44
          have H := bnd_eq H hb44
          refine o_jb 56 [7, 8, 9, 10, 11, 12, 13, 14, 15, 16, 17, 18, 19, 20, 21] [0, 1, 2, 3, 4, 5, 6, 7, 8, 9, 10, 11, 12, 13, 14, 15, 16, 17, 18, 19, 20, 21, 22, 23, 24, 25, 26, 27, 28, 29, 30, 31, 32, 33, 34, 35, 39, 40, 43, 44, 45, 46, 47, 48, 49, 50, 51, 52, 53, 54] H rfl ?_ ?_
          · intro x46 H
            refine o_run ft [7] rfl rfl ?_
            refine k_name 57 rfl ?_
            intro b47 hb48
            have H := bnd_eq H hb48
            refine o_jb 59 [10, 11, 12, 13, 14, 15, 16, 17, 18, 19, 20, 21] [0, 1, 2, 3, 4, 5, 6, 7, 8, 9, 10, 11, 12, 13, 14, 15, 16, 17, 18, 19, 20, 21, 22, 23, 24, 25, 26, 27, 28, 29, 30, 31, 32, 33, 34, 35, 39, 40, 43, 44, 45, 46, 47, 48, 49, 50, 51, 52, 53, 54, 56, 57] H rfl ?_ ?_
            · intro x50 H
              refine o_run ft [10] rfl rfl ?_
              refine k_name 60 rfl ?_
              intro b51 hb52
              have H := bnd_eq H hb52
              refine o_jb 64 [15, 16, 17, 18, 19, 20, 21] [0, 1, 2, 3, 4, 5, 6, 7, 8, 9, 10, 11, 12, 13, 14, 15, 16, 17, 18, 19, 20, 21, 22, 23, 24, 25, 26, 27, 28, 29, 30, 31, 32, 33, 34, 35, 39, 40, 43, 44, 45, 46, 47, 48, 49, 50, 51, 52, 53, 54, 56, 57, 59, 60] H rfl ?_ ?_
              · intro x54 H
                refine o_run ft [15] rfl rfl ?_
                refine k_name 65 rfl ?_
                intro b55 hb56
                have H := bnd_eq H hb56
                refine o_jb 70 [21] [0, 1, 2, 3, 4, 5, 6, 7, 8, 9, 10, 11, 12, 13, 14, 15, 16, 17, 18, 19, 20, 21, 22, 23, 24, 25, 26, 27, 28, 29, 30, 31, 32, 33, 34, 35, 39, 40, 43, 44, 45, 46, 47, 48, 49, 50, 51, 52, 53, 54, 56, 57, 59, 60, 64, 65] H rfl ?_ ?_
                · intro x58 H
                  refine o_run ft [21] rfl rfl ?_
                  refine o_nil ?_
                  refine q_then ?_
                  refine s_ret ?_
                  cases H
                  exact q_end (rs_1 Tryz.results9 (rv_tmp rfl)) ⟨rfl, rfl, rfl⟩ [] rfl 3 rfl [] rfl 5 rfl
                · intro J57 J57h H
                  cases b55 with
                  | true =>
                    rw [cond_true] at H
                    refine o_run ft [16] rfl rfl ?_
                    obtain ⟨r59, Hc60, H⟩ := bind_some' H
                    refine oc (k_call (c_tenant_Tenant_Active_n0  r59 Hc60) Tryz.call18 rfl rfl rfl [] [] rfl rfl (g1 rfl rfl rfl rfl) rfl rfl ?_)
                    rintro _ _ _ ⟨A61, c62, rfl, rfl, rfl⟩
                    dsimp only [app]
                    refine o_ld (hSl 0 rfl) rfl (ev_bytes_string rfl rfl Tryz.runUnderlying22 Tryz.runUnderlying9 Tryz.runUnderlying5) (g1 rfl rfl rfl rfl) rfl rfl ?_
                    refine o_pu rfl (ev_bin rfl rfl (show _ = some (vs ([102, 105, 114, 115, 116, 32, 105, 109, 97, 103, 101] : List UInt8)) from rfl) rfl (eql_s _ ([102, 105, 114, 115, 116, 32, 105, 109, 97, 103, 101] : List UInt8))) (g1 rfl rfl rfl rfl) rfl rfl ?_
                    refine o_run ft [20] rfl rfl ?_
                    exact k_wk (J57h (r59 == ([102, 105, 114, 115, 116, 32, 105, 109, 97, 103, 101] : List UInt8)) H) [70, 0, 1, 2, 3, 4, 5, 6, 7, 8, 9, 10, 11, 12, 13, 14, 15, 16, 17, 18, 19, 20, 21, 22, 23, 24, 25, 26, 27, 28, 29, 30, 31, 32, 33, 34, 35, 39, 40, 43, 44, 45, 46, 47, 48, 49, 50, 51, 52, 53, 54, 56, 57, 59, 60, 64, 65] [1, 2, 3] 4 [1, 1, 1, 1, 1] 1 rfl rfl rfl
                  | false =>
                    rw [cond_false] at H
                    refine o_gnot rfl rfl rfl rfl rfl rfl rfl rfl ?_
                    refine o_gnot rfl rfl rfl rfl rfl rfl rfl rfl ?_
                    refine o_gnot rfl rfl rfl rfl rfl rfl rfl rfl ?_
                    refine o_gnot rfl rfl rfl rfl rfl rfl rfl rfl ?_
                    refine o_run ft [20] rfl rfl ?_
                    exact k_wk (J57h false H) [70, 0, 1, 2, 3, 4, 5, 6, 7, 8, 9, 10, 11, 12, 13, 14, 15, 16, 17, 18, 19, 20, 21, 22, 23, 24, 25, 26, 27, 28, 29, 30, 31, 32, 33, 34, 35, 39, 40, 43, 44, 45, 46, 47, 48, 49, 50, 51, 52, 53, 54, 56, 57, 59, 60, 64, 65] [0, 1, 2] 3 [0, 0, 0, 0, 0] 0 rfl rfl rfl
              · intro J53 J53h H
                cases b51 with
                | true =>
                  rw [cond_true] at H
                  refine o_ld (hG 0 rfl) rfl (ev_ldN (j := 0) rfl rfl Tryz.isAgg40 (sz (RespS.len _) Tryz.sizeOf40) (sub_all _) rfl) (g1 rfl rfl rfl rfl) rfl rfl ?_
                  refine o_pu rfl (ev_build (cs := RespS.cells RespS.zero) rfl rfl Tryz.zeroValue40 Tryz.runUnderlying40 pl40 (show Instr.fill _ (RespS.cells RespS.zero : List Value).toArray _ = some _ from fill_nil)) (g1 rfl rfl rfl rfl) rfl rfl ?_
                  refine o_pu rfl (ev_eqA (f := RespS.cells) (X := r38.1) (Y := RespS.zero) rfl rfl rfl eqT40 rfl Tryz.isAgg40 Tryz.sizeOf40 RespS.len eqG40) (g1 rfl rfl rfl rfl) rfl rfl ?_
                  refine o_run ft [14] rfl rfl ?_
                  exact k_wk (J53h (decide (r38.1 = RespS.zero)) H) [64, 0, 1, 2, 3, 4, 5, 6, 7, 8, 9, 10, 11, 12, 13, 14, 15, 16, 17, 18, 19, 20, 21, 22, 23, 24, 25, 26, 27, 28, 29, 30, 31, 32, 33, 34, 35, 39, 40, 43, 44, 45, 46, 47, 48, 49, 50, 51, 52, 53, 54, 56, 57, 59, 60] [0, 1, 2] 3 [0, 0, 0, 0, 0] 0 rfl rfl rfl
                | false =>
                  rw [cond_false] at H
                  refine o_gnot rfl rfl rfl rfl rfl rfl rfl rfl ?_
                  refine o_gnot rfl rfl rfl rfl rfl rfl rfl rfl ?_
                  refine o_gnot rfl rfl rfl rfl rfl rfl rfl rfl ?_
                  refine o_run ft [14] rfl rfl ?_
                  exact k_wk (J53h false H) [64, 0, 1, 2, 3, 4, 5, 6, 7, 8, 9, 10, 11, 12, 13, 14, 15, 16, 17, 18, 19, 20, 21, 22, 23, 24, 25, 26, 27, 28, 29, 30, 31, 32, 33, 34, 35, 39, 40, 43, 44, 45, 46, 47, 48, 49, 50, 51, 52, 53, 54, 56, 57, 59, 60] [0, 1, 2] 3 [0, 0, 0, 0, 0] 0 rfl rfl rfl
            · intro J49 J49h H
              cases b47 with
              | true =>
                rw [cond_true] at H
                refine o_run ft [8, 9] rfl rfl ?_
                exact k_wk (J49h r38.2 H) [59, 0, 1, 2, 3, 4, 5, 6, 7, 8, 9, 10, 11, 12, 13, 14, 15, 16, 17, 18, 19, 20, 21, 22, 23, 24, 25, 26, 27, 28, 29, 30, 31, 32, 33, 34, 35, 39, 40, 43, 44, 45, 46, 47, 48, 49, 50, 51, 52, 53, 54, 56, 57] [0, 1, 2] 3 [0, 0, 0, 0, 0] 0 rfl rfl rfl
              | false =>
                rw [cond_false] at H
                refine o_gnot rfl rfl rfl rfl rfl rfl rfl rfl ?_
                refine o_run ft [9] rfl rfl ?_
                exact k_wk (J49h false H) [59, 0, 1, 2, 3, 4, 5, 6, 7, 8, 9, 10, 11, 12, 13, 14, 15, 16, 17, 18, 19, 20, 21, 22, 23, 24, 25, 26, 27, 28, 29, 30, 31, 32, 33, 34, 35, 39, 40, 43, 44, 45, 46, 47, 48, 49, 50, 51, 52, 53, 54, 56, 57] [0, 1, 2] 3 [0, 0, 0, 0, 0] 0 rfl rfl rfl
          · intro J45 J45h H
            cases b43 with
            | true =>
              rw [cond_true] at H
              refine o_run ft [5, 6] rfl rfl ?_
              exact k_wk (J45h r1.2 H) [56, 0, 1, 2, 3, 4, 5, 6, 7, 8, 9, 10, 11, 12, 13, 14, 15, 16, 17, 18, 19, 20, 21, 22, 23, 24, 25, 26, 27, 28, 29, 30, 31, 32, 33, 34, 35, 39, 40, 43, 44, 45, 46, 47, 48, 49, 50, 51, 52, 53, 54] [0, 1, 2] 3 [0, 0, 0, 0, 0] 0 rfl rfl rfl
            | false =>
              rw [cond_false] at H
              refine o_gnot rfl rfl rfl rfl rfl rfl rfl rfl ?_
              refine o_run ft [6] rfl rfl ?_
              exact k_wk (J45h false H) [56, 0, 1, 2, 3, 4, 5, 6, 7, 8, 9, 10, 11, 12, 13, 14, 15, 16, 17, 18, 19, 20, 21, 22, 23, 24, 25, 26, 27, 28, 29, 30, 31, 32, 33, 34, 35, 39, 40, 43, 44, 45, 46, 47, 48, 49, 50, 51, 52, 53, 54] [0, 1, 2] 3 [0, 0, 0, 0, 0] 0 rfl rfl rfl
      · intro J35 J35h H
        cases b33 with
        | true =>
          rw [cond_true] at H
          refine o_gnot rfl rfl rfl rfl rfl rfl rfl rfl ?_
          refine o_gnot rfl rfl rfl rfl rfl rfl rfl rfl ?_
          refine o_run ft [11] rfl rfl ?_
          exact k_wk (J35h true H) [43, 0, 1, 2, 3, 4, 5, 6, 7, 8, 9, 12, 13, 14, 15, 16, 17, 18, 19, 20, 21, 22, 23, 24, 25, 26, 27, 28, 29, 30, 31, 32, 33, 34, 35, 39, 40] [0, 1, 2] 3 [0, 0, 0, 0] 0 rfl rfl rfl
        | false =>
          rw [cond_false] at H
          refine o_run ft [9] rfl rfl ?_
          refine o_pu rfl (ev_bin rfl rfl rfl rfl (eql_ptr_nn Tryz.runUnderlying33)) (g1 rfl rfl rfl rfl) rfl rfl ?_
          refine o_run ft [11] rfl rfl ?_
          exact k_wk (J35h true H) [43, 0, 1, 2, 3, 4, 5, 6, 7, 8, 9, 12, 13, 14, 15, 16, 17, 18, 19, 20, 21, 22, 23, 24, 25, 26, 27, 28, 29, 30, 31, 32, 33, 34, 35, 39, 40] [0, 1, 2] 3 [0, 0, 0, 0] 0 rfl rfl rfl
    · intro J31 J31h H
      cases b29 with
      | true =>
        rw [cond_true] at H
        refine o_gnot rfl rfl rfl rfl rfl rfl rfl rfl ?_
        refine o_gnot rfl rfl rfl rfl rfl rfl rfl rfl ?_
        refine o_gnot rfl rfl rfl rfl rfl rfl rfl rfl ?_
        refine o_run ft [7] rfl rfl ?_
        exact k_wk (J31h true H) [39, 0, 1, 2, 3, 4, 5, 6, 7, 8, 9, 12, 13, 14, 15, 16, 17, 18, 19, 20, 21, 22, 23, 24, 25, 26, 27, 28, 29, 30, 31, 32, 33, 34, 35] [0, 1, 2] 3 [0, 0, 0, 0] 0 rfl rfl rfl
      | false =>
        rw [cond_false] at H
        refine o_run ft [4] rfl rfl ?_
        obtain ⟨r63, Hc64, H⟩ := bind_some' H
        refine oc (k_call (c_law20_num r19.2 r63 Hc64) Tryz.call14 rfl rfl rfl [] [] rfl rfl (g1 rfl rfl rfl rfl) rfl rfl ?_)
        rintro _ _ _ ⟨rfl, rfl, rfl⟩
        dsimp only [app]
        refine o_run ft [6, 7] rfl rfl ?_
        exact k_wk (J31h (r63 != 0) H) [39, 0, 1, 2, 3, 4, 5, 6, 7, 8, 9, 12, 13, 14, 15, 16, 17, 18, 19, 20, 21, 22, 23, 24, 25, 26, 27, 28, 29, 30, 31, 32, 33, 34, 35] [0, 1, 2] 3 [0, 0, 0, 0] 0 rfl rfl rfl
  · have H := optc_s H hr25
    obtain ⟨b65, g66, rfl, rfl, rfl⟩ := hp24.2 x26 hr25
    dsimp only [app]
    refine o_run ft [4, 5, 6, 7, 8] rfl rfl ?_
    refine o_nil ?_
    refine q_then ?_
    refine s_seq ?_
    refine s_seq ?_
    refine s_reg [0, 1, 2, 3, 4, 5, 6, 7, 8, 9, 10, 11] rfl ?_
    refine o_run ft [0] rfl rfl ?_
    obtain ⟨r67, Hc68, H⟩ := bind_some' H
    refine oc (k_call (c_law20_num r16.1 r67 Hc68) Tryz.call14 rfl rfl rfl [] [] rfl rfl (g0 rfl) rfl rfl ?_)
    rintro _ _ _ ⟨rfl, rfl, rfl⟩
    dsimp only [app]
    refine o_run ft [2, 3] rfl rfl ?_
    refine k_name 35 rfl ?_
    intro b69 hb70
    have H := bnd_eq H hb70
    refine o_jb 39 [8, 9, 10, 11] [0, 1, 2, 3, 4, 5, 6, 7, 8, 9, 12, 13, 14, 15, 16, 17, 18, 19, 20, 21, 22, 23, 24, 25, 26, 27, 28, 29, 30, 31, 32, 33, 34, 35] H rfl ?_ ?_
    · intro x72 H
      refine o_run ft [8] rfl rfl ?_
      refine k_name 40 rfl ?_
      intro b73 hb74
      have H := bnd_eq H hb74
      refine o_jb 43 [] [0, 1, 2, 3, 4, 5, 6, 7, 8, 9, 12, 13, 14, 15, 16, 17, 18, 19, 20, 21, 22, 23, 24, 25, 26, 27, 28, 29, 30, 31, 32, 33, 34, 35, 39, 40] H rfl ?_ ?_
      · intro x76 H
        refine o_nil ?_
        refine q_then ?_
        refine s_cond rfl ?_ ?_
        · intro hb77
          have H := cnd_t H hb77
          refine s_seq ?_
          refine s_reg [0] rfl ?_
          refine o_run ft [0] rfl rfl ?_
          refine o_nil ?_
          refine q_then ?_
          refine s_ret ?_
          refine q_then_r ?_
          cases H
          exact q_end (rs_1 Tryz.results9 (rv_tmp rfl)) ⟨rfl, rfl, rfl⟩ [] rfl 3 rfl [] rfl 5 rfl
        · intro hb77
          have H := cnd_f H hb77
          refine s_skip ?_
          refine q_then ?_
          refine s_seq ?_
          refine s_reg [0, 1, 2, 3, 4, 5, 6, 7, 8] rfl ?_
          refine o_run ft [0] rfl rfl ?_
          refine o_pu rfl (ev_build (cs := [vi 9, vi 0, .slice none 0 0]) rfl rfl Tryz.zeroValue44 Tryz.runUnderlying44 pl44 (show Instr.fill _ ([vi 0, vi 0, .slice none 0 0] : List Value).toArray _ = some _ from (fill_cons rfl (s := [vi 9]) rfl rfl (spl_lit (j := 0) (cs' := [vi 9, vi 0, .slice none 0 0]) rfl rfl) fill_nil))) (g0 rfl) rfl rfl ?_
          obtain ⟨r78, Hc79, H⟩ := bind_some' H
          refine oc (k_call (c_tenant_Tenant_Do b6 b65 x26 g66 (⟨9, 0, []⟩ : Req) none 0 r16.2 g18 r78 Hc79) Tryz.call16 rfl rfl rfl [2] [0, 0] rfl rfl (g0 rfl) rfl rfl ?_)
          rintro _ _ _ ⟨g80, g81, rfl, rfl, rfl⟩
          dsimp only [app]
          refine o_run ft [3, 4, 5] rfl rfl ?_
          refine oc (k_alloc rfl rfl Tryz.zeroValue40 (cs := RespS.cells RespS.zero) rfl (g0 rfl) rfl rfl ?_)
          intro b82
          refine oc (k_st (j := 0) rfl rfl rfl rfl (vs := RespS.cells r78.1) rfl (sz (RespS.len _) Tryz.sizeOf40) (RespS.sc _) 0 rfl (spl_all ((RespS.len _).trans (RespS.len _).symm)) rfl (g0 rfl) rfl ?_)
          refine o_run ft [8] rfl rfl ?_
          refine o_nil ?_
          refine q_then ?_
          refine s_seq ?_
          refine s_reg [0, 1, 2, 3, 4, 5, 6, 7, 8, 9, 10, 11, 12, 13, 14, 15, 16, 17, 18, 19, 20, 21] rfl ?_
          refine o_run ft [0] rfl rfl ?_
          refine o_ld (hG 5 rfl) rfl (ev_ld1 (j := 0) rfl rfl Tryz.isAgg31 (RespS.sub_Err _) rfl) (g0 rfl) rfl rfl ?_
          obtain ⟨r83, Hc84, H⟩ := bind_some' H
          refine oc (k_call (c_law20_num r1.1.Err r83 Hc84) Tryz.call14 rfl rfl rfl [] [] rfl rfl (g0 rfl) rfl rfl ?_)
          rintro _ _ _ ⟨rfl, rfl, rfl⟩
          dsimp only [app]
          refine o_run ft [3, 4] rfl rfl ?_
          refine k_name 54 rfl ?_
          intro b85 hb86
          have H := bnd_eq H hb86
          refine o_jb 56 [7, 8, 9, 10, 11, 12, 13, 14, 15, 16, 17, 18, 19, 20, 21] [0, 1, 2, 3, 4, 5, 6, 7, 8, 9, 10, 11, 12, 13, 14, 15, 16, 17, 18, 19, 20, 21, 22, 23, 24, 25, 26, 27, 28, 29, 30, 31, 32, 33, 34, 35, 39, 40, 43, 44, 45, 46, 47, 48, 49, 50, 51, 52, 53, 54] H rfl ?_ ?_
          · intro x88 H
            refine o_run ft [7] rfl rfl ?_
            refine k_name 57 rfl ?_
            intro b89 hb90
            have H := bnd_eq H hb90
            refine o_jb 59 [10, 11, 12, 13, 14, 15, 16, 17, 18, 19, 20, 21] [0, 1, 2, 3, 4, 5, 6, 7, 8, 9, 10, 11, 12, 13, 14, 15, 16, 17, 18, 19, 20, 21, 22, 23, 24, 25, 26, 27, 28, 29, 30, 31, 32, 33, 34, 35, 39, 40, 43, 44, 45, 46, 47, 48, 49, 50, 51, 52, 53, 54, 56, 57] H rfl ?_ ?_
            · intro x92 H
              refine o_run ft [10] rfl rfl ?_
              refine k_name 60 rfl ?_
              intro b93 hb94
              have H := bnd_eq H hb94
              refine o_jb 64 [15, 16, 17, 18, 19, 20, 21] [0, 1, 2, 3, 4, 5, 6, 7, 8, 9, 10, 11, 12, 13, 14, 15, 16, 17, 18, 19, 20, 21, 22, 23, 24, 25, 26, 27, 28, 29, 30, 31, 32, 33, 34, 35, 39, 40, 43, 44, 45, 46, 47, 48, 49, 50, 51, 52, 53, 54, 56, 57, 59, 60] H rfl ?_ ?_
              · intro x96 H
                refine o_run ft [15] rfl rfl ?_
                refine k_name 65 rfl ?_
                intro b97 hb98
                have H := bnd_eq H hb98
                refine o_jb 70 [21] [0, 1, 2, 3, 4, 5, 6, 7, 8, 9, 10, 11, 12, 13, 14, 15, 16, 17, 18, 19, 20, 21, 22, 23, 24, 25, 26, 27, 28, 29, 30, 31, 32, 33, 34, 35, 39, 40, 43, 44, 45, 46, 47, 48, 49, 50, 51, 52, 53, 54, 56, 57, 59, 60, 64, 65] H rfl ?_ ?_
                · intro x100 H
                  refine o_run ft [21] rfl rfl ?_
                  refine o_nil ?_
                  refine q_then ?_
                  refine s_ret ?_
                  cases H
                  exact q_end (rs_1 Tryz.results9 (rv_tmp rfl)) ⟨rfl, rfl, rfl⟩ [] rfl 3 rfl [] rfl 6 rfl
                · intro J99 J99h H
                  cases b97 with
                  | true =>
                    rw [cond_true] at H
                    refine o_run ft [16] rfl rfl ?_
                    obtain ⟨r101, Hc102, H⟩ := bind_some' H
                    refine oc (k_call (c_tenant_Tenant_Active b6 b65 r78.2.2.1 g80 r78.2.2.2 g81 r101 Hc102) Tryz.call18 rfl rfl rfl [] [1, 1] rfl rfl (g1 rfl rfl rfl rfl) rfl rfl ?_)
                    rintro _ _ _ ⟨A103, c104, rfl, rfl, rfl⟩
                    dsimp only [app]
                    refine o_ld (hSl 0 rfl) rfl (ev_bytes_string rfl rfl Tryz.runUnderlying22 Tryz.runUnderlying9 Tryz.runUnderlying5) (g1 rfl rfl rfl rfl) rfl rfl ?_
                    refine o_pu rfl (ev_bin rfl rfl (show _ = some (vs ([102, 105, 114, 115, 116, 32, 105, 109, 97, 103, 101] : List UInt8)) from rfl) rfl (eql_s _ ([102, 105, 114, 115, 116, 32, 105, 109, 97, 103, 101] : List UInt8))) (g1 rfl rfl rfl rfl) rfl rfl ?_
                    refine o_run ft [20] rfl rfl ?_
                    exact k_wk (J99h (r101 == ([102, 105, 114, 115, 116, 32, 105, 109, 97, 103, 101] : List UInt8)) H) [70, 0, 1, 2, 3, 4, 5, 6, 7, 8, 9, 10, 11, 12, 13, 14, 15, 16, 17, 18, 19, 20, 21, 22, 23, 24, 25, 26, 27, 28, 29, 30, 31, 32, 33, 34, 35, 39, 40, 43, 44, 45, 46, 47, 48, 49, 50, 51, 52, 53, 54, 56, 57, 59, 60, 64, 65] [1, 2, 3] 4 [3, 1, 1, 1, 1, 1] 1 rfl rfl rfl
                  | false =>
                    rw [cond_false] at H
                    refine o_gnot rfl rfl rfl rfl rfl rfl rfl rfl ?_
                    refine o_gnot rfl rfl rfl rfl rfl rfl rfl rfl ?_
                    refine o_gnot rfl rfl rfl rfl rfl rfl rfl rfl ?_
                    refine o_gnot rfl rfl rfl rfl rfl rfl rfl rfl ?_
                    refine o_run ft [20] rfl rfl ?_
                    exact k_wk (J99h false H) [70, 0, 1, 2, 3, 4, 5, 6, 7, 8, 9, 10, 11, 12, 13, 14, 15, 16, 17, 18, 19, 20, 21, 22, 23, 24, 25, 26, 27, 28, 29, 30, 31, 32, 33, 34, 35, 39, 40, 43, 44, 45, 46, 47, 48, 49, 50, 51, 52, 53, 54, 56, 57, 59, 60, 64, 65] [0, 1, 2] 3 [0, 0, 0, 0, 0, 0] 0 rfl rfl rfl
              · intro J95 J95h H
                cases b93 with
                | true =>
                  rw [cond_true] at H
                  refine o_ld (hG 0 rfl) rfl (ev_ldN (j := 0) rfl rfl Tryz.isAgg40 (sz (RespS.len _) Tryz.sizeOf40) (sub_all _) rfl) (g1 rfl rfl rfl rfl) rfl rfl ?_
                  refine o_pu rfl (ev_build (cs := RespS.cells RespS.zero) rfl rfl Tryz.zeroValue40 Tryz.runUnderlying40 pl40 (show Instr.fill _ (RespS.cells RespS.zero : List Value).toArray _ = some _ from fill_nil)) (g1 rfl rfl rfl rfl) rfl rfl ?_
                  refine o_pu rfl (ev_eqA (f := RespS.cells) (X := r78.1) (Y := RespS.zero) rfl rfl rfl eqT40 rfl Tryz.isAgg40 Tryz.sizeOf40 RespS.len eqG40) (g1 rfl rfl rfl rfl) rfl rfl ?_
                  refine o_run ft [14] rfl rfl ?_
                  exact k_wk (J95h (decide (r78.1 = RespS.zero)) H) [64, 0, 1, 2, 3, 4, 5, 6, 7, 8, 9, 10, 11, 12, 13, 14, 15, 16, 17, 18, 19, 20, 21, 22, 23, 24, 25, 26, 27, 28, 29, 30, 31, 32, 33, 34, 35, 39, 40, 43, 44, 45, 46, 47, 48, 49, 50, 51, 52, 53, 54, 56, 57, 59, 60] [0, 1, 2] 3 [0, 0, 0, 0, 0, 0] 0 rfl rfl rfl
                | false =>
                  rw [cond_false] at H
                  refine o_gnot rfl rfl rfl rfl rfl rfl rfl rfl ?_
                  refine o_gnot rfl rfl rfl rfl rfl rfl rfl rfl ?_
                  refine o_gnot rfl rfl rfl rfl rfl rfl rfl rfl ?_
                  refine o_run ft [14] rfl rfl ?_
                  exact k_wk (J95h false H) [64, 0, 1, 2, 3, 4, 5, 6, 7, 8, 9, 10, 11, 12, 13, 14, 15, 16, 17, 18, 19, 20, 21, 22, 23, 24, 25, 26, 27, 28, 29, 30, 31, 32, 33, 34, 35, 39, 40, 43, 44, 45, 46, 47, 48, 49, 50, 51, 52, 53, 54, 56, 57, 59, 60] [0, 1, 2] 3 [0, 0, 0, 0, 0, 0] 0 rfl rfl rfl
            · intro J91 J91h H
              cases b89 with
              | true =>
                rw [cond_true] at H
                refine o_run ft [8, 9] rfl rfl ?_
                exact k_wk (J91h r78.2.1 H) [59, 0, 1, 2, 3, 4, 5, 6, 7, 8, 9, 10, 11, 12, 13, 14, 15, 16, 17, 18, 19, 20, 21, 22, 23, 24, 25, 26, 27, 28, 29, 30, 31, 32, 33, 34, 35, 39, 40, 43, 44, 45, 46, 47, 48, 49, 50, 51, 52, 53, 54, 56, 57] [0, 1, 2] 3 [0, 0, 0, 0, 0, 0] 0 rfl rfl rfl
              | false =>
                rw [cond_false] at H
                refine o_gnot rfl rfl rfl rfl rfl rfl rfl rfl ?_
                refine o_run ft [9] rfl rfl ?_
                exact k_wk (J91h false H) [59, 0, 1, 2, 3, 4, 5, 6, 7, 8, 9, 10, 11, 12, 13, 14, 15, 16, 17, 18, 19, 20, 21, 22, 23, 24, 25, 26, 27, 28, 29, 30, 31, 32, 33, 34, 35, 39, 40, 43, 44, 45, 46, 47, 48, 49, 50, 51, 52, 53, 54, 56, 57] [0, 1, 2] 3 [0, 0, 0, 0, 0, 0] 0 rfl rfl rfl
          · intro J87 J87h H
            cases b85 with
            | true =>
              rw [cond_true] at H
              refine o_run ft [5, 6] rfl rfl ?_
              exact k_wk (J87h r1.2 H) [56, 0, 1, 2, 3, 4, 5, 6, 7, 8, 9, 10, 11, 12, 13, 14, 15, 16, 17, 18, 19, 20, 21, 22, 23, 24, 25, 26, 27, 28, 29, 30, 31, 32, 33, 34, 35, 39, 40, 43, 44, 45, 46, 47, 48, 49, 50, 51, 52, 53, 54] [0, 1, 2] 3 [0, 0, 0, 0, 0, 0] 0 rfl rfl rfl
            | false =>
              rw [cond_false] at H
              refine o_gnot rfl rfl rfl rfl rfl rfl rfl rfl ?_
              refine o_run ft [6] rfl rfl ?_
              exact k_wk (J87h false H) [56, 0, 1, 2, 3, 4, 5, 6, 7, 8, 9, 10, 11, 12, 13, 14, 15, 16, 17, 18, 19, 20, 21, 22, 23, 24, 25, 26, 27, 28, 29, 30, 31, 32, 33, 34, 35, 39, 40, 43, 44, 45, 46, 47, 48, 49, 50, 51, 52, 53, 54] [0, 1, 2] 3 [0, 0, 0, 0, 0, 0] 0 rfl rfl rfl
      · intro J75 J75h H
        cases b73 with
        | true =>
          rw [cond_true] at H
          refine o_gnot rfl rfl rfl rfl rfl rfl rfl rfl ?_
          refine o_gnot rfl rfl rfl rfl rfl rfl rfl rfl ?_
          refine o_run ft [11] rfl rfl ?_
          exact k_wk (J75h true H) [43, 0, 1, 2, 3, 4, 5, 6, 7, 8, 9, 12, 13, 14, 15, 16, 17, 18, 19, 20, 21, 22, 23, 24, 25, 26, 27, 28, 29, 30, 31, 32, 33, 34, 35, 39, 40] [0, 1, 2] 3 [0, 0, 0, 0, 0] 0 rfl rfl rfl
        | false =>
          rw [cond_false] at H
          refine o_run ft [9] rfl rfl ?_
          refine o_pu rfl (ev_bin rfl rfl rfl rfl (eql_ptr_pn Tryz.runUnderlying33)) (g1 rfl rfl rfl rfl) rfl rfl ?_
          refine o_run ft [11] rfl rfl ?_
          exact k_wk (J75h false H) [43, 0, 1, 2, 3, 4, 5, 6, 7, 8, 9, 12, 13, 14, 15, 16, 17, 18, 19, 20, 21, 22, 23, 24, 25, 26, 27, 28, 29, 30, 31, 32, 33, 34, 35, 39, 40] [0, 1, 2] 3 [0, 0, 0, 0, 0] 0 rfl rfl rfl
    · intro J71 J71h H
      cases b69 with
      | true =>
        rw [cond_true] at H
        refine o_gnot rfl rfl rfl rfl rfl rfl rfl rfl ?_
        refine o_gnot rfl rfl rfl rfl rfl rfl rfl rfl ?_
        refine o_gnot rfl rfl rfl rfl rfl rfl rfl rfl ?_
        refine o_run ft [7] rfl rfl ?_
        exact k_wk (J71h true H) [39, 0, 1, 2, 3, 4, 5, 6, 7, 8, 9, 12, 13, 14, 15, 16, 17, 18, 19, 20, 21, 22, 23, 24, 25, 26, 27, 28, 29, 30, 31, 32, 33, 34, 35] [0, 1, 2] 3 [0, 0, 0, 0, 0] 0 rfl rfl rfl
      | false =>
        rw [cond_false] at H
        refine o_run ft [4] rfl rfl ?_
        obtain ⟨r105, Hc106, H⟩ := bind_some' H
        refine oc (k_call (c_law20_num r19.2 r105 Hc106) Tryz.call14 rfl rfl rfl [] [] rfl rfl (g1 rfl rfl rfl rfl) rfl rfl ?_)
        rintro _ _ _ ⟨rfl, rfl, rfl⟩
        dsimp only [app]
        refine o_run ft [6, 7] rfl rfl ?_
        exact k_wk (J71h (r105 != 0) H) [39, 0, 1, 2, 3, 4, 5, 6, 7, 8, 9, 12, 13, 14, 15, 16, 17, 18, 19, 20, 21, 22, 23, 24, 25, 26, 27, 28, 29, 30, 31, 32, 33, 34, 35] [0, 1, 2] 3 [0, 0, 0, 0, 0] 0 rfl rfl rfl

end Go.Proofs.YtpdoioeckiiegaaGreatDoor.Wl
