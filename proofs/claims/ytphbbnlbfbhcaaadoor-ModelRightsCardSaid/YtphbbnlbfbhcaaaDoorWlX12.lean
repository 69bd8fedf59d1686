import Derived.Test.YtphbbnlbfbhcaaaDoorWlW
import Derived.Test.YtphbbnlbfbhcaaaDoorWlX0
import Derived.Test.YtphbbnlbfbhcaaaDoorWlX2
import Derived.Test.YtphbbnlbfbhcaaaDoorWlX9
import Derived.Test.YtphbbnlbfbhcaaaDoorWlX11
set_option linter.unusedSimpArgs false
set_option linter.unusedVariables false
set_option maxRecDepth 10000
namespace Go.Proofs.YtphbbnlbfbhcaaaDoor.Wl
open Go.RowKit Go.Proofs
def law24_alive : Option Bool :=
(model_Model_Do_n0 (⟨0, 0, []⟩ : Req)).bind fun r1 =>
(model_New (⟨([97] : List UInt8), ([107] : List UInt8), 1, 0, 1, 1022, ([120] : List UInt8)⟩ : Config)).bind fun r6 =>
optc r6 (
some false) (fun x13 =>
(model_Model_Do x13 (⟨9, 0, []⟩ : Req)).bind fun r16 =>
(law24_num r1.Err).bind fun r20 =>
bnd (r20 == 1) fun b22 =>
jn (fun x25 =>
bnd x25 fun b26 =>
jn (fun x29 =>
some x29) fun J28 =>
bif b26 then (
(model_Model_Active r16.2).bind fun r30 =>
J28 (r30 == ([120] : List UInt8))) else
J28 false) fun J24 =>
bif b22 then (
J24 (decide (r16.1 = RespS.zero))) else
J24 false)

theorem c_law24_alive (r : Bool) (H : law24_alive  = some r) : Fn Tryd.prog 15 [] [] [] (fun v D' G' => v = (vb r) ∧ D' = [] ∧ G' = []) := by
  unfold law24_alive at H
  refine fn_of Tryd.func15 rfl Tryd.ntmps15 rfl ?_
  intro w0 D0 G0
  dsimp only [app, initEnv, Nat.zero_add, Nat.reduceAdd]
  refine s_seq ?_
  refine s_reg [0] rfl ?_
  refine o_pu rfl (ev_assign rfl rfl) (g0 rfl) rfl rfl ?_
  refine o_nil ?_
  refine q_then ?_
  refine s_seq ?_
  refine s_reg [0] rfl ?_
  refine o_pu rfl (ev_assign rfl rfl) (g0 rfl) rfl rfl ?_
  refine o_nil ?_
  refine q_then ?_
  refine s_seq ?_
  refine s_reg [0, 1, 2, 3, 4] rfl ?_
  refine o_pu rfl (ev_move rfl rfl) (g0 rfl) rfl rfl ?_
  refine o_pu rfl (ev_build (cs := [vi 0, vi 0, .slice none 0 0]) rfl rfl Tryd.zeroValue34 Tryd.runUnderlying34 pl34 (show Instr.fill _ ([vi 0, vi 0, .slice none 0 0] : List Value).toArray _ = some _ from fill_nil)) (g0 rfl) rfl rfl ?_
  refine k_nil_sl E8 ?_
  obtain ⟨r1, Hc2, H⟩ := bind_some' H
  refine oc (k_call (c_model_Model_Do_n0 (⟨0, 0, []⟩ : Req) none 0 r1 Hc2) Tryd.call17 rfl rfl rfl [0] [] rfl rfl (g0 rfl) rfl rfl ?_)
  rintro _ _ _ ⟨rfl, rfl, rfl⟩
  dsimp only [app]
  refine oc (k_alloc rfl rfl Tryd.zeroValue48 (cs := RespS.cells RespS.zero) rfl (g0 rfl) rfl rfl ?_)
  intro b3
  refine oc (k_st (j := 0) rfl rfl rfl rfl (vs := RespS.cells r1) rfl (sz (RespS.len _) Tryd.sizeOf48) (RespS.sc _) 0 rfl (spl_all ((RespS.len _).trans (RespS.len _).symm)) rfl (g0 rfl) rfl ?_)
  refine o_nil ?_
  refine q_then ?_
  refine s_seq ?_
  refine s_reg [0, 1, 2, 3, 4, 5, 6] rfl ?_
  refine o_lit ([107] : List UInt8) rfl rfl rfl rfl Tryd.underlying32 Tryd.underlying5 Tryd.sizeOf5 Tryd.zeroValue5 rfl rfl (fill_all rfl rfl (by simp) rfl rfl) (g0 rfl) rfl rfl rfl rfl (fun _ => (g0 rfl)) rfl rfl ?_
  intro b4
  refine o_lit ([120] : List UInt8) rfl rfl rfl rfl Tryd.underlying32 Tryd.underlying5 Tryd.sizeOf5 Tryd.zeroValue5 rfl rfl (fill_all rfl rfl (by simp) rfl rfl) (g0 rfl) rfl rfl rfl rfl (fun _ => (g0 rfl)) rfl rfl ?_
  intro b5
  refine o_pu rfl (ev_build (cs := [vs ([97] : List UInt8), .slice (some ⟨b4, 0, none⟩) ([107] : List UInt8).length 1, vi 1, vi 0, vi 1, vi 1022, .slice (some ⟨b5, 0, none⟩) ([120] : List UInt8).length 1]) rfl rfl Tryd.zeroValue46 Tryd.runUnderlying46 pl46 (show Instr.fill _ ([vs [], .slice none 0 0, vi 0, vi 0, vi 0, vi 0, .slice none 0 0] : List Value).toArray _ = some _ from (fill_cons rfl (s := [vs ([97] : List UInt8)]) rfl rfl (spl_lit (j := 0) (cs' := [vs ([97] : List UInt8), .slice none 0 0, vi 0, vi 0, vi 0, vi 0, .slice none 0 0]) rfl rfl) (fill_cons rfl (s := [.slice (some ⟨b4, 0, none⟩) ([107] : List UInt8).length 1]) rfl rfl (spl_lit (j := 1) (cs' := [vs ([97] : List UInt8), .slice (some ⟨b4, 0, none⟩) ([107] : List UInt8).length 1, vi 0, vi 0, vi 0, vi 0, .slice none 0 0]) rfl rfl) (fill_cons rfl (s := [vi 1]) rfl rfl (spl_lit (j := 2) (cs' := [vs ([97] : List UInt8), .slice (some ⟨b4, 0, none⟩) ([107] : List UInt8).length 1, vi 1, vi 0, vi 0, vi 0, .slice none 0 0]) rfl rfl) (fill_cons rfl (s := [vi 1]) rfl rfl (spl_lit (j := 4) (cs' := [vs ([97] : List UInt8), .slice (some ⟨b4, 0, none⟩) ([107] : List UInt8).length 1, vi 1, vi 0, vi 1, vi 0, .slice none 0 0]) rfl rfl) (fill_cons rfl (s := [vi 1022]) rfl rfl (spl_lit (j := 5) (cs' := [vs ([97] : List UInt8), .slice (some ⟨b4, 0, none⟩) ([107] : List UInt8).length 1, vi 1, vi 0, vi 1, vi 1022, .slice none 0 0]) rfl rfl) (fill_cons rfl (s := [.slice (some ⟨b5, 0, none⟩) ([120] : List UInt8).length 1]) rfl rfl (spl_lit (j := 6) (cs' := [vs ([97] : List UInt8), .slice (some ⟨b4, 0, none⟩) ([107] : List UInt8).length 1, vi 1, vi 0, vi 1, vi 1022, .slice (some ⟨b5, 0, none⟩) ([120] : List UInt8).length 1]) rfl rfl) fill_nil)))))))) (g0 rfl) rfl rfl ?_
  obtain ⟨r6, Hc7, H⟩ := bind_some' H
  refine oc (k_call (c_model_New (⟨([97] : List UInt8), ([107] : List UInt8), 1, 0, 1, 1022, ([120] : List UInt8)⟩ : Config) (some ⟨b4, 0, none⟩) 1 (some ⟨b5, 0, none⟩) 1 r6 Hc7) Tryd.call16 rfl rfl rfl [0, 1] [] rfl rfl (g0 rfl) rfl rfl ?_)
  intro v8 D9 G10 hp11
  rcases hr12 : r6 with _ | x13
  · have H := optc_n H hr12
    obtain ⟨rfl, rfl, rfl⟩ := hp11.1 hr12
    dsimp only [app]
    refine o_pu rfl (ev_assign rfl rfl) (g0 rfl) rfl rfl ?_
    refine o_nil ?_
    refine q_then ?_
    refine s_seq ?_
    refine s_seq ?_
    refine s_reg [0, 1] rfl ?_
    refine o_pu rfl (ev_move rfl rfl) (g0 rfl) rfl rfl ?_
    refine o_pu rfl (ev_bin rfl rfl rfl rfl (eql_ptr_nn Tryd.runUnderlying43)) (g0 rfl) rfl rfl ?_
    refine o_nil ?_
    refine q_then ?_
    refine s_cond_t rfl ?_
    refine s_seq ?_
    refine s_reg [0] rfl ?_
    refine o_pu rfl (ev_assign rfl rfl) (g0 rfl) rfl rfl ?_
    refine o_nil ?_
    refine q_then ?_
    refine s_ret ?_
    refine q_then_r ?_
    cases H
    exact q_end (rs_1 Tryd.results15 (rv_tmp rfl)) ⟨rfl, rfl, rfl⟩ [] rfl 3 rfl [] rfl 1 rfl
  · have H := optc_s H hr12
    obtain ⟨b14, g15, rfl, rfl, rfl⟩ := hp11.2 x13 hr12
    dsimp only [app]
    refine o_pu rfl (ev_assign rfl rfl) (g0 rfl) rfl rfl ?_
    refine o_nil ?_
    refine q_then ?_
    refine s_seq ?_
    refine s_seq ?_
    refine s_reg [0, 1] rfl ?_
    refine o_pu rfl (ev_move rfl rfl) (g0 rfl) rfl rfl ?_
    refine o_pu rfl (ev_bin rfl rfl rfl rfl (eql_ptr_pn Tryd.runUnderlying43)) (g0 rfl) rfl rfl ?_
    refine o_nil ?_
    refine q_then ?_
    refine s_cond_f rfl ?_
    refine s_skip ?_
    refine q_then ?_
    refine s_seq ?_
    refine s_reg [0, 1, 2, 3, 4] rfl ?_
    refine o_pu rfl (ev_move rfl rfl) (g0 rfl) rfl rfl ?_
    refine o_pu rfl (ev_build (cs := [vi 9, vi 0, .slice none 0 0]) rfl rfl Tryd.zeroValue34 Tryd.runUnderlying34 pl34 (show Instr.fill _ ([vi 0, vi 0, .slice none 0 0] : List Value).toArray _ = some _ from (fill_cons rfl (s := [vi 9]) rfl rfl (spl_lit (j := 0) (cs' := [vi 9, vi 0, .slice none 0 0]) rfl rfl) fill_nil))) (g0 rfl) rfl rfl ?_
    obtain ⟨r16, Hc17, H⟩ := bind_some' H
    refine oc (k_call (c_model_Model_Do b14 x13 g15 (⟨9, 0, []⟩ : Req) none 0 r16 Hc17) Tryd.call17 rfl rfl rfl [2] [0] rfl rfl (g0 rfl) rfl rfl ?_)
    rintro _ _ _ ⟨g18, rfl, rfl, rfl⟩
    dsimp only [app]
    refine oc (k_alloc rfl rfl Tryd.zeroValue48 (cs := RespS.cells RespS.zero) rfl (g0 rfl) rfl rfl ?_)
    intro b19
    refine oc (k_st (j := 0) rfl rfl rfl rfl (vs := RespS.cells r16.1) rfl (sz (RespS.len _) Tryd.sizeOf48) (RespS.sc _) 0 rfl (spl_all ((RespS.len _).trans (RespS.len _).symm)) rfl (g0 rfl) rfl ?_)
    refine o_nil ?_
    refine q_then ?_
    refine s_seq ?_
    refine s_reg [0, 1, 2, 3, 4, 5, 6, 7, 8, 9, 10, 11, 12, 13, 14, 15] rfl ?_
    refine o_pu rfl (ev_fieldAddr rfl rfl Tryd.runUnderlying48 rfl Tryd.sizeOf24 rfl rfl) (g0 rfl) rfl rfl ?_
    refine o_ld (hG 2 rfl) rfl (ev_ld1 (j := 0) rfl rfl Tryd.isAgg24 (RespS.sub_Err _) rfl) (g0 rfl) rfl rfl ?_
    obtain ⟨r20, Hc21, H⟩ := bind_some' H
    refine oc (k_call (c_law24_num r1.Err r20 Hc21) Tryd.call27 rfl rfl rfl [] [] rfl rfl (g0 rfl) rfl rfl ?_)
    rintro _ _ _ ⟨rfl, rfl, rfl⟩
    dsimp only [app]
    refine o_pu rfl (ev_bin rfl rfl rfl rfl (eql_i _ 1)) (g0 rfl) rfl rfl ?_
    refine o_pu rfl (ev_move rfl rfl) (g0 rfl) rfl rfl ?_
    refine k_name 23 rfl ?_
    intro b22 hb23
    have H := bnd_eq H hb23
    refine o_jb 27 [9, 10, 11, 12, 13, 14, 15] [0, 1, 2, 3, 4, 5, 6, 7, 8, 9, 10, 11, 12, 13, 14, 15, 16, 17, 18, 19, 20, 21, 22, 23] H rfl ?_ ?_
    · intro x25 H
      refine o_pu rfl (ev_move rfl rfl) (g0 rfl) rfl rfl ?_
      refine k_name 28 rfl ?_
      intro b26 hb27
      have H := bnd_eq H hb27
      refine o_jb 33 [15] [0, 1, 2, 3, 4, 5, 6, 7, 8, 9, 10, 11, 12, 13, 14, 15, 16, 17, 18, 19, 20, 21, 22, 23, 27, 28] H rfl ?_ ?_
      · intro x29 H
        refine o_pu rfl (ev_assign rfl rfl) (g0 rfl) rfl rfl ?_
        refine o_nil ?_
        refine q_then ?_
        refine s_ret ?_
        cases H
        exact q_end (rs_1 Tryd.results15 (rv_tmp rfl)) ⟨rfl, rfl, rfl⟩ [] rfl 3 rfl [] rfl 3 rfl
      · intro J28 H
        cases b26 with
        | true =>
          rw [cond_true] at H
          refine o_pu rfl (ev_move rfl rfl) (g1 rfl rfl rfl rfl) rfl rfl ?_
          obtain ⟨r30, Hc31, H⟩ := bind_some' H
          refine oc (k_call (c_model_Model_Active b14 r16.2 g18 r30 Hc31) Tryd.call28 rfl rfl rfl [] [1] rfl rfl (g1 rfl rfl rfl rfl) rfl rfl ?_)
          rintro _ _ _ ⟨A32, c33, rfl, rfl, rfl⟩
          dsimp only [app]
          refine o_ld (hSl 0 rfl) rfl (ev_bytes_string rfl rfl Tryd.runUnderlying32 Tryd.runUnderlying9 Tryd.runUnderlying5) (g1 rfl rfl rfl rfl) rfl rfl ?_
          refine o_pu rfl (ev_bin rfl rfl (show _ = some (vs ([120] : List UInt8)) from rfl) rfl (eql_s _ ([120] : List UInt8))) (g1 rfl rfl rfl rfl) rfl rfl ?_
          refine o_pu rfl (ev_pick_t rfl rfl rfl) (g0 rfl) rfl rfl ?_
          exact k_wk (J28 (r30 == ([120] : List UInt8)) H) [33, 0, 1, 2, 3, 4, 5, 6, 7, 8, 9, 10, 11, 12, 13, 14, 15, 16, 17, 18, 19, 20, 21, 22, 23, 27, 28] [1, 2, 3] 4 [2, 1, 1] 1 rfl rfl rfl
        | false =>
          rw [cond_false] at H
          refine o_gnot rfl rfl rfl rfl rfl rfl rfl rfl ?_
          refine o_gnot rfl rfl rfl rfl rfl rfl rfl rfl ?_
          refine o_gnot rfl rfl rfl rfl rfl rfl rfl rfl ?_
          refine o_gnot rfl rfl rfl rfl rfl rfl rfl rfl ?_
          refine o_pu rfl (ev_pick_f rfl rfl rfl) (g0 rfl) rfl rfl ?_
          exact k_wk (J28 false H) [33, 0, 1, 2, 3, 4, 5, 6, 7, 8, 9, 10, 11, 12, 13, 14, 15, 16, 17, 18, 19, 20, 21, 22, 23, 27, 28] [0, 1, 2] 3 [0, 0, 0] 0 rfl rfl rfl
    · intro J24 H
      cases b22 with
      | true =>
        rw [cond_true] at H
        refine o_ld (hG 0 rfl) rfl (ev_ldN (j := 0) rfl rfl Tryd.isAgg48 (sz (RespS.len _) Tryd.sizeOf48) (sub_all _) rfl) (g1 rfl rfl rfl rfl) rfl rfl ?_
        refine o_pu rfl (ev_build (cs := RespS.cells RespS.zero) rfl rfl Tryd.zeroValue48 Tryd.runUnderlying48 pl48 (show Instr.fill _ (RespS.cells RespS.zero : List Value).toArray _ = some _ from fill_nil)) (g1 rfl rfl rfl rfl) rfl rfl ?_
        refine o_pu rfl (ev_eqA (f := RespS.cells) (X := r16.1) (Y := RespS.zero) rfl rfl rfl eqT48 rfl Tryd.isAgg48 Tryd.sizeOf48 RespS.len eqG48) (g1 rfl rfl rfl rfl) rfl rfl ?_
        refine o_pu rfl (ev_pick_t rfl rfl rfl) (g0 rfl) rfl rfl ?_
        exact k_wk (J24 (decide (r16.1 = RespS.zero)) H) [27, 0, 1, 2, 3, 4, 5, 6, 7, 8, 9, 10, 11, 12, 13, 14, 15, 16, 17, 18, 19, 20, 21, 22, 23] [0, 1, 2] 3 [0, 0, 0] 0 rfl rfl rfl
      | false =>
        rw [cond_false] at H
        refine o_gnot rfl rfl rfl rfl rfl rfl rfl rfl ?_
        refine o_gnot rfl rfl rfl rfl rfl rfl rfl rfl ?_
        refine o_gnot rfl rfl rfl rfl rfl rfl rfl rfl ?_
        refine o_pu rfl (ev_pick_f rfl rfl rfl) (g0 rfl) rfl rfl ?_
        exact k_wk (J24 false H) [27, 0, 1, 2, 3, 4, 5, 6, 7, 8, 9, 10, 11, 12, 13, 14, 15, 16, 17, 18, 19, 20, 21, 22, 23] [0, 1, 2] 3 [0, 0, 0] 0 rfl rfl rfl

def law24_ModelRights (a0_rights : Int) (a1_kind : Int) : Option Bool :=
(law24_alive ).bind fun r1 =>
bnd (!r1) fun b3 =>
jn (fun x6 =>
bnd x6 fun b7 =>
jn (fun x10 =>
bif x10 then (
some r1) else (
(model_New (⟨([97] : List UInt8), ([107] : List UInt8), 1, 0, 1, a0_rights, ([120] : List UInt8)⟩ : Config)).bind fun r14 =>
optc r14 (
some false) (fun x21 =>
(model_Model_Do x21 (⟨a1_kind, 0, []⟩ : Req)).bind fun r24 =>
bnd (decide (a1_kind ≥ 1)) fun b28 =>
jn (fun x31 =>
bnd x31 fun b32 =>
jn (fun x35 =>
some ((r24.1.Err == 14) == (!x35))) fun J34 =>
bif b32 then (
J34 ((iand (ishr a0_rights ((UInt64.ofInt (iand a1_kind 15)) : UInt64).toNat) 1) == 1)) else
J34 false) fun J30 =>
bif b28 then (
J30 (decide (a1_kind ≤ 9))) else
J30 false))) fun J9 =>
bif b7 then (
J9 true) else
J9 (decide (a0_rights > 1023))) fun J5 =>
bif b3 then (
J5 true) else
J5 (decide (a0_rights < 0))

theorem c_law24_ModelRights (a0_rights : Int) (a1_kind : Int) (r : Bool) (H : law24_ModelRights a0_rights a1_kind = some r) : Fn Tryd.prog 6 [(vi a0_rights), (vi a1_kind)] [] [] (fun v D' G' => v = (vb r) ∧ D' = [] ∧ G' = []) := by
  unfold law24_ModelRights at H
  refine fn_of Tryd.func6 rfl Tryd.ntmps6 rfl ?_
  intro w0 D0 G0
  dsimp only [app, initEnv, Nat.zero_add, Nat.reduceAdd]
  refine s_seq ?_
  refine s_reg [0] rfl ?_
  refine o_pu rfl (ev_assign rfl rfl) (g0 rfl) rfl rfl ?_
  refine o_nil ?_
  refine q_then ?_
  refine s_seq ?_
  refine s_reg [0, 1] rfl ?_
  obtain ⟨r1, Hc2, H⟩ := bind_some' H
  refine oc (k_call (c_law24_alive  r1 Hc2) Tryd.call15 rfl rfl rfl [] [] rfl rfl (g0 rfl) rfl rfl ?_)
  rintro _ _ _ ⟨rfl, rfl, rfl⟩
  dsimp only [app]
  refine o_pu rfl (ev_assign rfl rfl) (g0 rfl) rfl rfl ?_
  refine o_nil ?_
  refine q_then ?_
  refine s_seq ?_
  refine s_seq ?_
  refine s_reg [0, 1, 2, 3, 4, 5, 6, 7, 8, 9] rfl ?_
  refine o_pu rfl (ev_move rfl rfl) (g0 rfl) rfl rfl ?_
  refine o_pu rfl (ev_not rfl rfl) (g0 rfl) rfl rfl ?_
  refine o_pu rfl (ev_move rfl rfl) (g0 rfl) rfl rfl ?_
  refine k_name 12 rfl ?_
  intro b3 hb4
  have H := bnd_eq H hb4
  refine o_jb 15 [6, 7, 8, 9] [0, 1, 4, 5, 9, 10, 11, 12] H rfl ?_ ?_
  · intro x6 H
    refine o_pu rfl (ev_move rfl rfl) (g0 rfl) rfl rfl ?_
    refine k_name 16 rfl ?_
    intro b7 hb8
    have H := bnd_eq H hb8
    refine o_jb 19 [] [0, 1, 4, 5, 9, 10, 11, 12, 15, 16] H rfl ?_ ?_
    · intro x10 H
      refine o_nil ?_
      refine q_then ?_
      refine s_cond rfl ?_ ?_
      · intro hb11
        have H := cnd_t H hb11
        refine s_seq ?_
        refine s_reg [0, 1] rfl ?_
        refine o_pu rfl (ev_move rfl rfl) (g0 rfl) rfl rfl ?_
        refine o_pu rfl (ev_assign rfl rfl) (g0 rfl) rfl rfl ?_
        refine o_nil ?_
        refine q_then ?_
        refine s_ret ?_
        refine q_then_r ?_
        cases H
        exact q_end (rs_1 Tryd.results6 (rv_tmp rfl)) ⟨rfl, rfl, rfl⟩ [] rfl 0 rfl [] rfl 0 rfl
      · intro hb11
        have H := cnd_f H hb11
        refine s_skip ?_
        refine q_then ?_
        refine s_seq ?_
        refine s_reg [0, 1, 2, 3, 4, 5, 6, 7] rfl ?_
        refine o_lit ([107] : List UInt8) rfl rfl rfl rfl Tryd.underlying32 Tryd.underlying5 Tryd.sizeOf5 Tryd.zeroValue5 rfl rfl (fill_all rfl rfl (by simp) rfl rfl) (g0 rfl) rfl rfl rfl rfl (fun _ => (g0 rfl)) rfl rfl ?_
        intro b12
        refine o_pu rfl (ev_move rfl rfl) (g0 rfl) rfl rfl ?_
        refine o_lit ([120] : List UInt8) rfl rfl rfl rfl Tryd.underlying32 Tryd.underlying5 Tryd.sizeOf5 Tryd.zeroValue5 rfl rfl (fill_all rfl rfl (by simp) rfl rfl) (g0 rfl) rfl rfl rfl rfl (fun _ => (g0 rfl)) rfl rfl ?_
        intro b13
        refine o_pu rfl (ev_build (cs := [vs ([97] : List UInt8), .slice (some ⟨b12, 0, none⟩) ([107] : List UInt8).length 1, vi 1, vi 0, vi 1, vi a0_rights, .slice (some ⟨b13, 0, none⟩) ([120] : List UInt8).length 1]) rfl rfl Tryd.zeroValue46 Tryd.runUnderlying46 pl46 (show Instr.fill _ ([vs [], .slice none 0 0, vi 0, vi 0, vi 0, vi 0, .slice none 0 0] : List Value).toArray _ = some _ from (fill_cons rfl (s := [vs ([97] : List UInt8)]) rfl rfl (spl_lit (j := 0) (cs' := [vs ([97] : List UInt8), .slice none 0 0, vi 0, vi 0, vi 0, vi 0, .slice none 0 0]) rfl rfl) (fill_cons rfl (s := [.slice (some ⟨b12, 0, none⟩) ([107] : List UInt8).length 1]) rfl rfl (spl_lit (j := 1) (cs' := [vs ([97] : List UInt8), .slice (some ⟨b12, 0, none⟩) ([107] : List UInt8).length 1, vi 0, vi 0, vi 0, vi 0, .slice none 0 0]) rfl rfl) (fill_cons rfl (s := [vi 1]) rfl rfl (spl_lit (j := 2) (cs' := [vs ([97] : List UInt8), .slice (some ⟨b12, 0, none⟩) ([107] : List UInt8).length 1, vi 1, vi 0, vi 0, vi 0, .slice none 0 0]) rfl rfl) (fill_cons rfl (s := [vi 1]) rfl rfl (spl_lit (j := 4) (cs' := [vs ([97] : List UInt8), .slice (some ⟨b12, 0, none⟩) ([107] : List UInt8).length 1, vi 1, vi 0, vi 1, vi 0, .slice none 0 0]) rfl rfl) (fill_cons rfl (s := [vi a0_rights]) rfl rfl (spl_lit (j := 5) (cs' := [vs ([97] : List UInt8), .slice (some ⟨b12, 0, none⟩) ([107] : List UInt8).length 1, vi 1, vi 0, vi 1, vi a0_rights, .slice none 0 0]) rfl rfl) (fill_cons rfl (s := [.slice (some ⟨b13, 0, none⟩) ([120] : List UInt8).length 1]) rfl rfl (spl_lit (j := 6) (cs' := [vs ([97] : List UInt8), .slice (some ⟨b12, 0, none⟩) ([107] : List UInt8).length 1, vi 1, vi 0, vi 1, vi a0_rights, .slice (some ⟨b13, 0, none⟩) ([120] : List UInt8).length 1]) rfl rfl) fill_nil)))))))) (g0 rfl) rfl rfl ?_
        obtain ⟨r14, Hc15, H⟩ := bind_some' H
        refine oc (k_call (c_model_New (⟨([97] : List UInt8), ([107] : List UInt8), 1, 0, 1, a0_rights, ([120] : List UInt8)⟩ : Config) (some ⟨b12, 0, none⟩) 1 (some ⟨b13, 0, none⟩) 1 r14 Hc15) Tryd.call16 rfl rfl rfl [0, 1] [] rfl rfl (g0 rfl) rfl rfl ?_)
        intro v16 D17 G18 hp19
        rcases hr20 : r14 with _ | x21
        · have H := optc_n H hr20
          obtain ⟨rfl, rfl, rfl⟩ := hp19.1 hr20
          dsimp only [app]
          refine o_pu rfl (ev_assign rfl rfl) (g0 rfl) rfl rfl ?_
          refine o_nil ?_
          refine q_then ?_
          refine s_seq ?_
          refine s_seq ?_
          refine s_reg [0, 1] rfl ?_
          refine o_pu rfl (ev_move rfl rfl) (g0 rfl) rfl rfl ?_
          refine o_pu rfl (ev_bin rfl rfl rfl rfl (eql_ptr_nn Tryd.runUnderlying43)) (g0 rfl) rfl rfl ?_
          refine o_nil ?_
          refine q_then ?_
          refine s_cond_t rfl ?_
          refine s_seq ?_
          refine s_reg [0] rfl ?_
          refine o_pu rfl (ev_assign rfl rfl) (g0 rfl) rfl rfl ?_
          refine o_nil ?_
          refine q_then ?_
          refine s_ret ?_
          refine q_then_r ?_
          cases H
          exact q_end (rs_1 Tryd.results6 (rv_tmp rfl)) ⟨rfl, rfl, rfl⟩ [] rfl 2 rfl [] rfl 0 rfl
        · have H := optc_s H hr20
          obtain ⟨b22, g23, rfl, rfl, rfl⟩ := hp19.2 x21 hr20
          dsimp only [app]
          refine o_pu rfl (ev_assign rfl rfl) (g0 rfl) rfl rfl ?_
          refine o_nil ?_
          refine q_then ?_
          refine s_seq ?_
          refine s_seq ?_
          refine s_reg [0, 1] rfl ?_
          refine o_pu rfl (ev_move rfl rfl) (g0 rfl) rfl rfl ?_
          refine o_pu rfl (ev_bin rfl rfl rfl rfl (eql_ptr_pn Tryd.runUnderlying43)) (g0 rfl) rfl rfl ?_
          refine o_nil ?_
          refine q_then ?_
          refine s_cond_f rfl ?_
          refine s_skip ?_
          refine q_then ?_
          refine s_seq ?_
          refine s_reg [0, 1, 2, 3, 4, 5] rfl ?_
          refine o_pu rfl (ev_move rfl rfl) (g0 rfl) rfl rfl ?_
          refine o_pu rfl (ev_move rfl rfl) (g0 rfl) rfl rfl ?_
          refine o_pu rfl (ev_build (cs := [vi a1_kind, vi 0, .slice none 0 0]) rfl rfl Tryd.zeroValue34 Tryd.runUnderlying34 pl34 (show Instr.fill _ ([vi 0, vi 0, .slice none 0 0] : List Value).toArray _ = some _ from (fill_cons rfl (s := [vi a1_kind]) rfl rfl (spl_lit (j := 0) (cs' := [vi a1_kind, vi 0, .slice none 0 0]) rfl rfl) fill_nil))) (g0 rfl) rfl rfl ?_
          refine k_nil_sl E8 ?_
          obtain ⟨r24, Hc25, H⟩ := bind_some' H
          refine oc (k_call (c_model_Model_Do b22 x21 g23 (⟨a1_kind, 0, []⟩ : Req) none 0 r24 Hc25) Tryd.call17 rfl rfl rfl [0] [0] rfl rfl (g0 rfl) rfl rfl ?_)
          rintro _ _ _ ⟨g26, rfl, rfl, rfl⟩
          dsimp only [app]
          refine oc (k_alloc rfl rfl Tryd.zeroValue48 (cs := RespS.cells RespS.zero) rfl (g0 rfl) rfl rfl ?_)
          intro b27
          refine oc (k_st (j := 0) rfl rfl rfl rfl (vs := RespS.cells r24.1) rfl (sz (RespS.len _) Tryd.sizeOf48) (RespS.sc _) 0 rfl (spl_all ((RespS.len _).trans (RespS.len _).symm)) rfl (g0 rfl) rfl ?_)
          refine o_nil ?_
          refine q_then ?_
          refine s_seq ?_
          refine s_reg [0, 1, 2, 3, 4, 5, 6, 7, 8, 9, 10, 11, 12, 13, 14, 15] rfl ?_
          refine o_pu rfl (ev_move rfl rfl) (g0 rfl) rfl rfl ?_
          refine o_pu rfl (ev_bin rfl rfl rfl rfl (geq_i _ 1)) (g0 rfl) rfl rfl ?_
          refine o_pu rfl (ev_move rfl rfl) (g0 rfl) rfl rfl ?_
          refine k_name 36 rfl ?_
          intro b28 hb29
          have H := bnd_eq H hb29
          refine o_jb 39 [6, 7, 8, 9, 10, 11, 12, 13, 14, 15] [0, 1, 4, 5, 6, 7, 9, 10, 11, 12, 15, 16, 19, 21, 22, 23, 24, 25, 26, 27, 28, 29, 30, 31, 32, 33, 34, 35, 36] H rfl ?_ ?_
          · intro x31 H
            refine o_pu rfl (ev_move rfl rfl) (g0 rfl) rfl rfl ?_
            refine k_name 40 rfl ?_
            intro b32 hb33
            have H := bnd_eq H hb33
            refine o_jb 48 [15] [0, 1, 4, 5, 6, 7, 9, 10, 11, 12, 15, 16, 19, 21, 22, 23, 24, 25, 26, 27, 28, 29, 30, 31, 32, 33, 34, 35, 36, 39, 40] H rfl ?_ ?_
            · intro x35 H
              refine o_pu rfl (ev_assign rfl rfl) (g0 rfl) rfl rfl ?_
              refine o_nil ?_
              refine q_then ?_
              refine s_seq ?_
              refine s_reg [0, 1, 2, 3, 4, 5, 6] rfl ?_
              refine o_pu rfl (ev_fieldAddr rfl rfl Tryd.runUnderlying48 rfl Tryd.sizeOf24 rfl rfl) (g0 rfl) rfl rfl ?_
              refine o_ld (hG 0 rfl) rfl (ev_ld1 (j := 0) rfl rfl Tryd.isAgg24 (RespS.sub_Err _) rfl) (g0 rfl) rfl rfl ?_
              refine o_pu rfl (ev_bin rfl rfl rfl rfl (eql_i _ 14)) (g0 rfl) rfl rfl ?_
              refine o_pu rfl (ev_move rfl rfl) (g0 rfl) rfl rfl ?_
              refine o_pu rfl (ev_not rfl rfl) (g0 rfl) rfl rfl ?_
              refine o_pu rfl (ev_bin rfl rfl rfl rfl (eql_b _ _ Tryd.runUnderlying4)) (g0 rfl) rfl rfl ?_
              refine o_pu rfl (ev_assign rfl rfl) (g0 rfl) rfl rfl ?_
              refine o_nil ?_
              refine q_then ?_
              refine s_ret ?_
              cases H
              exact q_end (rs_1 Tryd.results6 (rv_tmp rfl)) ⟨rfl, rfl, rfl⟩ [] rfl 3 rfl [] rfl 2 rfl
            · intro J34 H
              cases b32 with
              | true =>
                rw [cond_true] at H
                refine o_pu rfl (ev_move rfl rfl) (g1 rfl rfl rfl rfl) rfl rfl ?_
                refine o_pu rfl (ev_move rfl rfl) (g1 rfl rfl rfl rfl) rfl rfl ?_
                refine o_pu rfl (ev_bin rfl rfl rfl rfl (and_i _ 15)) (g1 rfl rfl rfl rfl) rfl rfl ?_
                refine o_pu rfl (ev_conv rfl rfl (conv_i_u64 _ Tryd.runUnderlying3 Tryd.runUnderlying50)) (g1 rfl rfl rfl rfl) rfl rfl ?_
                refine o_pu rfl (ev_bin rfl rfl rfl rfl (shr_iu _ _)) (g1 rfl rfl rfl rfl) rfl rfl ?_
                refine o_pu rfl (ev_bin rfl rfl rfl rfl (and_i _ 1)) (g1 rfl rfl rfl rfl) rfl rfl ?_
                refine o_pu rfl (ev_bin rfl rfl rfl rfl (eql_i _ 1)) (g1 rfl rfl rfl rfl) rfl rfl ?_
                refine o_pu rfl (ev_pick_t rfl rfl rfl) (g0 rfl) rfl rfl ?_
                exact k_wk (J34 ((iand (ishr a0_rights ((UInt64.ofInt (iand a1_kind 15)) : UInt64).toNat) 1) == 1) H) [48, 0, 1, 4, 5, 6, 7, 9, 10, 11, 12, 15, 16, 19, 21, 22, 23, 24, 25, 26, 27, 28, 29, 30, 31, 32, 33, 34, 35, 36, 39, 40] [0, 1, 2] 3 [0, 0] 0 rfl rfl rfl
              | false =>
                rw [cond_false] at H
                refine o_gnot rfl rfl rfl rfl rfl rfl rfl rfl ?_
                refine o_gnot rfl rfl rfl rfl rfl rfl rfl rfl ?_
                refine o_gnot rfl rfl rfl rfl rfl rfl rfl rfl ?_
                refine o_gnot rfl rfl rfl rfl rfl rfl rfl rfl ?_
                refine o_gnot rfl rfl rfl rfl rfl rfl rfl rfl ?_
                refine o_gnot rfl rfl rfl rfl rfl rfl rfl rfl ?_
                refine o_gnot rfl rfl rfl rfl rfl rfl rfl rfl ?_
                refine o_pu rfl (ev_pick_f rfl rfl rfl) (g0 rfl) rfl rfl ?_
                exact k_wk (J34 false H) [48, 0, 1, 4, 5, 6, 7, 9, 10, 11, 12, 15, 16, 19, 21, 22, 23, 24, 25, 26, 27, 28, 29, 30, 31, 32, 33, 34, 35, 36, 39, 40] [0, 1, 2] 3 [0, 0] 0 rfl rfl rfl
          · intro J30 H
            cases b28 with
            | true =>
              rw [cond_true] at H
              refine o_pu rfl (ev_move rfl rfl) (g1 rfl rfl rfl rfl) rfl rfl ?_
              refine o_pu rfl (ev_bin rfl rfl rfl rfl (leq_i _ 9)) (g1 rfl rfl rfl rfl) rfl rfl ?_
              refine o_pu rfl (ev_pick_t rfl rfl rfl) (g0 rfl) rfl rfl ?_
              exact k_wk (J30 (decide (a1_kind ≤ 9)) H) [39, 0, 1, 4, 5, 6, 7, 9, 10, 11, 12, 15, 16, 19, 21, 22, 23, 24, 25, 26, 27, 28, 29, 30, 31, 32, 33, 34, 35, 36] [0, 1, 2] 3 [0, 0] 0 rfl rfl rfl
            | false =>
              rw [cond_false] at H
              refine o_gnot rfl rfl rfl rfl rfl rfl rfl rfl ?_
              refine o_gnot rfl rfl rfl rfl rfl rfl rfl rfl ?_
              refine o_pu rfl (ev_pick_f rfl rfl rfl) (g0 rfl) rfl rfl ?_
              exact k_wk (J30 false H) [39, 0, 1, 4, 5, 6, 7, 9, 10, 11, 12, 15, 16, 19, 21, 22, 23, 24, 25, 26, 27, 28, 29, 30, 31, 32, 33, 34, 35, 36] [0, 1, 2] 3 [0, 0] 0 rfl rfl rfl
    · intro J9 H
      cases b7 with
      | true =>
        rw [cond_true] at H
        refine o_gnot rfl rfl rfl rfl rfl rfl rfl rfl ?_
        refine o_gnot rfl rfl rfl rfl rfl rfl rfl rfl ?_
        refine o_pu rfl (ev_pick_t rfl rfl rfl) (g0 rfl) rfl rfl ?_
        exact k_wk (J9 true H) [19, 0, 1, 4, 5, 9, 10, 11, 12, 15, 16] [] 0 [] 0 rfl rfl rfl
      | false =>
        rw [cond_false] at H
        refine o_pu rfl (ev_move rfl rfl) (g1 rfl rfl rfl rfl) rfl rfl ?_
        refine o_pu rfl (ev_bin rfl rfl rfl rfl (gtr_i _ 1023)) (g1 rfl rfl rfl rfl) rfl rfl ?_
        refine o_pu rfl (ev_pick_f rfl rfl rfl) (g0 rfl) rfl rfl ?_
        exact k_wk (J9 (decide (a0_rights > 1023)) H) [19, 0, 1, 4, 5, 9, 10, 11, 12, 15, 16] [] 0 [] 0 rfl rfl rfl
  · intro J5 H
    cases b3 with
    | true =>
      rw [cond_true] at H
      refine o_gnot rfl rfl rfl rfl rfl rfl rfl rfl ?_
      refine o_gnot rfl rfl rfl rfl rfl rfl rfl rfl ?_
      refine o_pu rfl (ev_pick_t rfl rfl rfl) (g0 rfl) rfl rfl ?_
      exact k_wk (J5 true H) [15, 0, 1, 4, 5, 9, 10, 11, 12] [] 0 [] 0 rfl rfl rfl
    | false =>
      rw [cond_false] at H
      refine o_pu rfl (ev_move rfl rfl) (g1 rfl rfl rfl rfl) rfl rfl ?_
      refine o_pu rfl (ev_bin rfl rfl rfl rfl (lss_i _ 0)) (g1 rfl rfl rfl rfl) rfl rfl ?_
      refine o_pu rfl (ev_pick_f rfl rfl rfl) (g0 rfl) rfl rfl ?_
      exact k_wk (J5 (decide (a0_rights < 0)) H) [15, 0, 1, 4, 5, 9, 10, 11, 12] [] 0 [] 0 rfl rfl rfl

end Go.Proofs.YtphbbnlbfbhcaaaDoor.Wl
