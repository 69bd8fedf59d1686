import Derived.Test.YtpdoioeckiiegaaGreatDoorWlW
import Derived.Test.YtpdoioeckiiegaaGreatDoorWlX0
import Derived.Test.YtpdoioeckiiegaaGreatDoorWlX1
import Derived.Test.YtpdoioeckiiegaaGreatDoorWlX3
import Derived.Test.YtpdoioeckiiegaaGreatDoorWlX5
import Derived.Test.YtpdoioeckiiegaaGreatDoorWlX6
import Derived.Test.YtpdoioeckiiegaaGreatDoorWlX7
import Derived.Test.YtpdoioeckiiegaaGreatDoorWlX8
import Derived.Test.YtpdoioeckiiegaaGreatDoorWlX9
import Derived.Test.YtpdoioeckiiegaaGreatDoorWlX10
set_option linter.unusedSimpArgs false
set_option linter.unusedVariables false
set_option maxRecDepth 10000
namespace Go.Proofs.YtpdoioeckiiegaaGreatDoor.Wl
open Go.RowKit Go.Proofs
def update_does (a0_m : MetaS) (a1_q : Req) (a2_f : FactS) (a3_quota : Int) : Option ChangeS :=
bif (a1_q.Kind == 1) then (
(update_begin a0_m (⟨a1_q.Kind, a1_q.N, a1_q.Bytes⟩ : Req) a2_f a3_quota).bind fun r8 =>
some r8) else (
bif (a1_q.Kind == 2) then (
(update_write a0_m (⟨a1_q.Kind, a1_q.N, a1_q.Bytes⟩ : Req) a2_f).bind fun r11 =>
some r11) else (
bif (a1_q.Kind == 3) then (
(update_verify a0_m a2_f).bind fun r14 =>
some r14) else (
bif (a1_q.Kind == 4) then (
(update_commit a0_m a2_f).bind fun r17 =>
some r17) else (
bif (a1_q.Kind == 5) then (
(update_boot a0_m a2_f).bind fun r20 =>
some r20) else (
bif (a1_q.Kind == 6) then (
(update_confirm a0_m a2_f).bind fun r23 =>
some r23) else (
bif (a1_q.Kind == 7) then (
(update_rollback a0_m a2_f).bind fun r26 =>
some r26) else (
bif (a1_q.Kind == 8) then (
(update_abort a0_m a2_f).bind fun r29 =>
some r29) else (
bif (a1_q.Kind == 9) then (
some (⟨a0_m, (⟨0, a0_m.Phase, a0_m.Got⟩ : RespS)⟩ : ChangeS)) else (
(update_fails (1 : Int)).bind fun r32 =>
some r32)))))))))

theorem c_update_does (a0_m : MetaS) (a1_q : Req) (A1 : Option Addr) (c2 : Nat) (a2_f : FactS) (a3_quota : Int) (r : ChangeS) (H : update_does a0_m a1_q a2_f a3_quota = some r) : Fn Tryz.prog 114 [(.agg (MetaS.cells a0_m).toArray), (.agg ([vi a1_q.Kind, vi a1_q.N, .slice A1 a1_q.Bytes.length c2]).toArray), (.agg (FactS.cells a2_f).toArray), (vi a3_quota)] [Sl E8 A1 c2 a1_q.Bytes] [] (fun v D' G' => v = (.agg (ChangeS.cells r).toArray) ∧ D' = [] ∧ G' = []) := by
  unfold update_does at H
  refine fn_of Tryz.func114 rfl Tryz.ntmps114 rfl ?_
  intro w0 D0 G0
  dsimp only [app, initEnv, Nat.zero_add, Nat.reduceAdd]
  refine s_seq ?_
  refine s_reg [0, 1, 2, 3] rfl ?_
  refine oc (k_box rfl rfl rfl (cs := MetaS.cells a0_m) rfl (g0 rfl) rfl rfl ?_)
  intro b3
  refine oc (k_box rfl rfl rfl (cs := [vi a1_q.Kind, vi a1_q.N, .slice A1 a1_q.Bytes.length c2]) rfl (g0 rfl) rfl rfl ?_)
  intro b4
  refine oc (k_box rfl rfl rfl (cs := FactS.cells a2_f) rfl (g0 rfl) rfl rfl ?_)
  intro b5
  refine oc (k_alloc rfl rfl Tryz.zeroValue170 (cs := ChangeS.cells ChangeS.zero) rfl (g0 rfl) rfl rfl ?_)
  intro b6
  refine o_nil ?_
  refine q_then ?_
  refine s_seq ?_
  refine s_seq ?_
  refine s_reg [0, 1] rfl ?_
  refine o_run ft [0] rfl rfl ?_
  refine o_ld (hG 2 rfl) rfl (ev_ld1 (j := 0) rfl rfl Tryz.isAgg3 (sub_nth (j := 0) rfl) rfl) (g0 rfl) rfl rfl ?_
  refine o_nil ?_
  refine q_then ?_
  refine s_block ?_
  refine s_seq ?_
  refine s_reg [0, 1] rfl ?_
  refine o_run ft [0, 1] rfl rfl ?_
  refine o_nil ?_
  refine q_then ?_
  refine s_cond rfl ?_ ?_
  · intro hb7
    have H := cnd_t H hb7
    refine s_seq ?_
    refine s_reg [0, 1, 2, 3, 4, 5] rfl ?_
    refine o_ld (hG 3 rfl) rfl (ev_ldN (j := 0) rfl rfl Tryz.isAgg52 (sz (MetaS.len _) Tryz.sizeOf52) (sub_all _) rfl) (g0 rfl) rfl rfl ?_
    refine o_ld (hG 2 rfl) rfl (ev_ldN (j := 0) (s := [vi a1_q.Kind, vi a1_q.N, .slice A1 a1_q.Bytes.length c2]) rfl rfl Tryz.isAgg44 (sz rfl Tryz.sizeOf44) (sub_all _) rfl) (g0 rfl) rfl rfl ?_
    refine o_ld (hG 1 rfl) rfl (ev_ldN (j := 0) rfl rfl Tryz.isAgg60 (sz (FactS.len _) Tryz.sizeOf60) (sub_all _) rfl) (g0 rfl) rfl rfl ?_
    refine o_run ft [3] rfl rfl ?_
    obtain ⟨r8, Hc9, H⟩ := bind_some' H
    refine oc (k_call (c_update_begin a0_m (⟨a1_q.Kind, a1_q.N, a1_q.Bytes⟩ : Req) A1 c2 a2_f a3_quota r8 Hc9) Tryz.call176 rfl rfl rfl [0] [] rfl rfl (g0 rfl) rfl rfl ?_)
    rintro _ _ _ ⟨rfl, rfl, rfl⟩
    dsimp only [app]
    refine oc (k_st (j := 0) rfl rfl rfl rfl (vs := ChangeS.cells r8) rfl (sz (ChangeS.len _) Tryz.sizeOf170) (ChangeS.sc _) 0 rfl (spl_all ((ChangeS.len _).trans (ChangeS.len _).symm)) rfl (g0 rfl) rfl ?_)
    refine o_nil ?_
    refine q_then ?_
    refine s_ret ?_
    refine q_block_r ?_
    refine q_then_r ?_
    cases H
    exact q_end (rs_1 Tryz.results114 (rv_cell (j := 0) rfl (hG 0 rfl) Tryz.isAgg170 (sz (ChangeS.len _) Tryz.sizeOf170) (sub_all _) rfl)) ⟨rfl, rfl, rfl⟩ [] rfl 1 rfl [] rfl 4 rfl
  · intro hb7
    have H := cnd_f H hb7
    refine s_seq ?_
    refine s_reg [0, 1] rfl ?_
    refine o_run ft [0, 1] rfl rfl ?_
    refine o_nil ?_
    refine q_then ?_
    refine s_cond rfl ?_ ?_
    · intro hb10
      have H := cnd_t H hb10
      refine s_seq ?_
      refine s_reg [0, 1, 2, 3, 4] rfl ?_
      refine o_ld (hG 3 rfl) rfl (ev_ldN (j := 0) rfl rfl Tryz.isAgg52 (sz (MetaS.len _) Tryz.sizeOf52) (sub_all _) rfl) (g0 rfl) rfl rfl ?_
      refine o_ld (hG 2 rfl) rfl (ev_ldN (j := 0) (s := [vi a1_q.Kind, vi a1_q.N, .slice A1 a1_q.Bytes.length c2]) rfl rfl Tryz.isAgg44 (sz rfl Tryz.sizeOf44) (sub_all _) rfl) (g0 rfl) rfl rfl ?_
      refine o_ld (hG 1 rfl) rfl (ev_ldN (j := 0) rfl rfl Tryz.isAgg60 (sz (FactS.len _) Tryz.sizeOf60) (sub_all _) rfl) (g0 rfl) rfl rfl ?_
      obtain ⟨r11, Hc12, H⟩ := bind_some' H
      refine oc (k_call (c_update_write a0_m (⟨a1_q.Kind, a1_q.N, a1_q.Bytes⟩ : Req) A1 c2 a2_f r11 Hc12) Tryz.call177 rfl rfl rfl [0] [] rfl rfl (g0 rfl) rfl rfl ?_)
      rintro _ _ _ ⟨rfl, rfl, rfl⟩
      dsimp only [app]
      refine oc (k_st (j := 0) rfl rfl rfl rfl (vs := ChangeS.cells r11) rfl (sz (ChangeS.len _) Tryz.sizeOf170) (ChangeS.sc _) 0 rfl (spl_all ((ChangeS.len _).trans (ChangeS.len _).symm)) rfl (g0 rfl) rfl ?_)
      refine o_nil ?_
      refine q_then ?_
      refine s_ret ?_
      refine q_block_r ?_
      refine q_then_r ?_
      cases H
      exact q_end (rs_1 Tryz.results114 (rv_cell (j := 0) rfl (hG 0 rfl) Tryz.isAgg170 (sz (ChangeS.len _) Tryz.sizeOf170) (sub_all _) rfl)) ⟨rfl, rfl, rfl⟩ [] rfl 1 rfl [] rfl 4 rfl
    · intro hb10
      have H := cnd_f H hb10
      refine s_seq ?_
      refine s_reg [0, 1] rfl ?_
      refine o_run ft [0, 1] rfl rfl ?_
      refine o_nil ?_
      refine q_then ?_
      refine s_cond rfl ?_ ?_
      · intro hb13
        have H := cnd_t H hb13
        refine s_seq ?_
        refine s_reg [0, 1, 2, 3] rfl ?_
        refine o_ld (hG 3 rfl) rfl (ev_ldN (j := 0) rfl rfl Tryz.isAgg52 (sz (MetaS.len _) Tryz.sizeOf52) (sub_all _) rfl) (g0 rfl) rfl rfl ?_
        refine o_ld (hG 1 rfl) rfl (ev_ldN (j := 0) rfl rfl Tryz.isAgg60 (sz (FactS.len _) Tryz.sizeOf60) (sub_all _) rfl) (g0 rfl) rfl rfl ?_
        obtain ⟨r14, Hc15, H⟩ := bind_some' H
        refine oc (k_call (c_update_verify a0_m a2_f r14 Hc15) Tryz.call178 rfl rfl rfl [] [] rfl rfl (g0 rfl) rfl rfl ?_)
        rintro _ _ _ ⟨rfl, rfl, rfl⟩
        dsimp only [app]
        refine oc (k_st (j := 0) rfl rfl rfl rfl (vs := ChangeS.cells r14) rfl (sz (ChangeS.len _) Tryz.sizeOf170) (ChangeS.sc _) 0 rfl (spl_all ((ChangeS.len _).trans (ChangeS.len _).symm)) rfl (g0 rfl) rfl ?_)
        refine o_nil ?_
        refine q_then ?_
        refine s_ret ?_
        refine q_block_r ?_
        refine q_then_r ?_
        cases H
        exact q_end (rs_1 Tryz.results114 (rv_cell (j := 0) rfl (hG 0 rfl) Tryz.isAgg170 (sz (ChangeS.len _) Tryz.sizeOf170) (sub_all _) rfl)) ⟨rfl, rfl, rfl⟩ [] rfl 1 rfl [] rfl 4 rfl
      · intro hb13
        have H := cnd_f H hb13
        refine s_seq ?_
        refine s_reg [0, 1] rfl ?_
        refine o_run ft [0, 1] rfl rfl ?_
        refine o_nil ?_
        refine q_then ?_
        refine s_cond rfl ?_ ?_
        · intro hb16
          have H := cnd_t H hb16
          refine s_seq ?_
          refine s_reg [0, 1, 2, 3] rfl ?_
          refine o_ld (hG 3 rfl) rfl (ev_ldN (j := 0) rfl rfl Tryz.isAgg52 (sz (MetaS.len _) Tryz.sizeOf52) (sub_all _) rfl) (g0 rfl) rfl rfl ?_
          refine o_ld (hG 1 rfl) rfl (ev_ldN (j := 0) rfl rfl Tryz.isAgg60 (sz (FactS.len _) Tryz.sizeOf60) (sub_all _) rfl) (g0 rfl) rfl rfl ?_
          obtain ⟨r17, Hc18, H⟩ := bind_some' H
          refine oc (k_call (c_update_commit a0_m a2_f r17 Hc18) Tryz.call179 rfl rfl rfl [] [] rfl rfl (g0 rfl) rfl rfl ?_)
          rintro _ _ _ ⟨rfl, rfl, rfl⟩
          dsimp only [app]
          refine oc (k_st (j := 0) rfl rfl rfl rfl (vs := ChangeS.cells r17) rfl (sz (ChangeS.len _) Tryz.sizeOf170) (ChangeS.sc _) 0 rfl (spl_all ((ChangeS.len _).trans (ChangeS.len _).symm)) rfl (g0 rfl) rfl ?_)
          refine o_nil ?_
          refine q_then ?_
          refine s_ret ?_
          refine q_block_r ?_
          refine q_then_r ?_
          cases H
          exact q_end (rs_1 Tryz.results114 (rv_cell (j := 0) rfl (hG 0 rfl) Tryz.isAgg170 (sz (ChangeS.len _) Tryz.sizeOf170) (sub_all _) rfl)) ⟨rfl, rfl, rfl⟩ [] rfl 1 rfl [] rfl 4 rfl
        · intro hb16
          have H := cnd_f H hb16
          refine s_seq ?_
          refine s_reg [0, 1] rfl ?_
          refine o_run ft [0, 1] rfl rfl ?_
          refine o_nil ?_
          refine q_then ?_
          refine s_cond rfl ?_ ?_
          · intro hb19
            have H := cnd_t H hb19
            refine s_seq ?_
            refine s_reg [0, 1, 2, 3] rfl ?_
            refine o_ld (hG 3 rfl) rfl (ev_ldN (j := 0) rfl rfl Tryz.isAgg52 (sz (MetaS.len _) Tryz.sizeOf52) (sub_all _) rfl) (g0 rfl) rfl rfl ?_
            refine o_ld (hG 1 rfl) rfl (ev_ldN (j := 0) rfl rfl Tryz.isAgg60 (sz (FactS.len _) Tryz.sizeOf60) (sub_all _) rfl) (g0 rfl) rfl rfl ?_
            obtain ⟨r20, Hc21, H⟩ := bind_some' H
            refine oc (k_call (c_update_boot a0_m a2_f r20 Hc21) Tryz.call180 rfl rfl rfl [] [] rfl rfl (g0 rfl) rfl rfl ?_)
            rintro _ _ _ ⟨rfl, rfl, rfl⟩
            dsimp only [app]
            refine oc (k_st (j := 0) rfl rfl rfl rfl (vs := ChangeS.cells r20) rfl (sz (ChangeS.len _) Tryz.sizeOf170) (ChangeS.sc _) 0 rfl (spl_all ((ChangeS.len _).trans (ChangeS.len _).symm)) rfl (g0 rfl) rfl ?_)
            refine o_nil ?_
            refine q_then ?_
            refine s_ret ?_
            refine q_block_r ?_
            refine q_then_r ?_
            cases H
            exact q_end (rs_1 Tryz.results114 (rv_cell (j := 0) rfl (hG 0 rfl) Tryz.isAgg170 (sz (ChangeS.len _) Tryz.sizeOf170) (sub_all _) rfl)) ⟨rfl, rfl, rfl⟩ [] rfl 1 rfl [] rfl 4 rfl
          · intro hb19
            have H := cnd_f H hb19
            refine s_seq ?_
            refine s_reg [0, 1] rfl ?_
            refine o_run ft [0, 1] rfl rfl ?_
            refine o_nil ?_
            refine q_then ?_
            refine s_cond rfl ?_ ?_
            · intro hb22
              have H := cnd_t H hb22
              refine s_seq ?_
              refine s_reg [0, 1, 2, 3] rfl ?_
              refine o_ld (hG 3 rfl) rfl (ev_ldN (j := 0) rfl rfl Tryz.isAgg52 (sz (MetaS.len _) Tryz.sizeOf52) (sub_all _) rfl) (g0 rfl) rfl rfl ?_
              refine o_ld (hG 1 rfl) rfl (ev_ldN (j := 0) rfl rfl Tryz.isAgg60 (sz (FactS.len _) Tryz.sizeOf60) (sub_all _) rfl) (g0 rfl) rfl rfl ?_
              obtain ⟨r23, Hc24, H⟩ := bind_some' H
              refine oc (k_call (c_update_confirm a0_m a2_f r23 Hc24) Tryz.call181 rfl rfl rfl [] [] rfl rfl (g0 rfl) rfl rfl ?_)
              rintro _ _ _ ⟨rfl, rfl, rfl⟩
              dsimp only [app]
              refine oc (k_st (j := 0) rfl rfl rfl rfl (vs := ChangeS.cells r23) rfl (sz (ChangeS.len _) Tryz.sizeOf170) (ChangeS.sc _) 0 rfl (spl_all ((ChangeS.len _).trans (ChangeS.len _).symm)) rfl (g0 rfl) rfl ?_)
              refine o_nil ?_
              refine q_then ?_
              refine s_ret ?_
              refine q_block_r ?_
              refine q_then_r ?_
              cases H
              exact q_end (rs_1 Tryz.results114 (rv_cell (j := 0) rfl (hG 0 rfl) Tryz.isAgg170 (sz (ChangeS.len _) Tryz.sizeOf170) (sub_all _) rfl)) ⟨rfl, rfl, rfl⟩ [] rfl 1 rfl [] rfl 4 rfl
            · intro hb22
              have H := cnd_f H hb22
              refine s_seq ?_
              refine s_reg [0, 1] rfl ?_
              refine o_run ft [0, 1] rfl rfl ?_
              refine o_nil ?_
              refine q_then ?_
              refine s_cond rfl ?_ ?_
              · intro hb25
                have H := cnd_t H hb25
                refine s_seq ?_
                refine s_reg [0, 1, 2, 3] rfl ?_
                refine o_ld (hG 3 rfl) rfl (ev_ldN (j := 0) rfl rfl Tryz.isAgg52 (sz (MetaS.len _) Tryz.sizeOf52) (sub_all _) rfl) (g0 rfl) rfl rfl ?_
                refine o_ld (hG 1 rfl) rfl (ev_ldN (j := 0) rfl rfl Tryz.isAgg60 (sz (FactS.len _) Tryz.sizeOf60) (sub_all _) rfl) (g0 rfl) rfl rfl ?_
                obtain ⟨r26, Hc27, H⟩ := bind_some' H
                refine oc (k_call (c_update_rollback a0_m a2_f r26 Hc27) Tryz.call182 rfl rfl rfl [] [] rfl rfl (g0 rfl) rfl rfl ?_)
                rintro _ _ _ ⟨rfl, rfl, rfl⟩
                dsimp only [app]
                refine oc (k_st (j := 0) rfl rfl rfl rfl (vs := ChangeS.cells r26) rfl (sz (ChangeS.len _) Tryz.sizeOf170) (ChangeS.sc _) 0 rfl (spl_all ((ChangeS.len _).trans (ChangeS.len _).symm)) rfl (g0 rfl) rfl ?_)
                refine o_nil ?_
                refine q_then ?_
                refine s_ret ?_
                refine q_block_r ?_
                refine q_then_r ?_
                cases H
                exact q_end (rs_1 Tryz.results114 (rv_cell (j := 0) rfl (hG 0 rfl) Tryz.isAgg170 (sz (ChangeS.len _) Tryz.sizeOf170) (sub_all _) rfl)) ⟨rfl, rfl, rfl⟩ [] rfl 1 rfl [] rfl 4 rfl
              · intro hb25
                have H := cnd_f H hb25
                refine s_seq ?_
                refine s_reg [0, 1] rfl ?_
                refine o_run ft [0, 1] rfl rfl ?_
                refine o_nil ?_
                refine q_then ?_
                refine s_cond rfl ?_ ?_
                · intro hb28
                  have H := cnd_t H hb28
                  refine s_seq ?_
                  refine s_reg [0, 1, 2, 3] rfl ?_
                  refine o_ld (hG 3 rfl) rfl (ev_ldN (j := 0) rfl rfl Tryz.isAgg52 (sz (MetaS.len _) Tryz.sizeOf52) (sub_all _) rfl) (g0 rfl) rfl rfl ?_
                  refine o_ld (hG 1 rfl) rfl (ev_ldN (j := 0) rfl rfl Tryz.isAgg60 (sz (FactS.len _) Tryz.sizeOf60) (sub_all _) rfl) (g0 rfl) rfl rfl ?_
                  obtain ⟨r29, Hc30, H⟩ := bind_some' H
                  refine oc (k_call (c_update_abort a0_m a2_f r29 Hc30) Tryz.call183 rfl rfl rfl [] [] rfl rfl (g0 rfl) rfl rfl ?_)
                  rintro _ _ _ ⟨rfl, rfl, rfl⟩
                  dsimp only [app]
                  refine oc (k_st (j := 0) rfl rfl rfl rfl (vs := ChangeS.cells r29) rfl (sz (ChangeS.len _) Tryz.sizeOf170) (ChangeS.sc _) 0 rfl (spl_all ((ChangeS.len _).trans (ChangeS.len _).symm)) rfl (g0 rfl) rfl ?_)
                  refine o_nil ?_
                  refine q_then ?_
                  refine s_ret ?_
                  refine q_block_r ?_
                  refine q_then_r ?_
                  cases H
                  exact q_end (rs_1 Tryz.results114 (rv_cell (j := 0) rfl (hG 0 rfl) Tryz.isAgg170 (sz (ChangeS.len _) Tryz.sizeOf170) (sub_all _) rfl)) ⟨rfl, rfl, rfl⟩ [] rfl 1 rfl [] rfl 4 rfl
                · intro hb28
                  have H := cnd_f H hb28
                  refine s_seq ?_
                  refine s_reg [0, 1] rfl ?_
                  refine o_run ft [0, 1] rfl rfl ?_
                  refine o_nil ?_
                  refine q_then ?_
                  refine s_cond rfl ?_ ?_
                  · intro hb31
                    have H := cnd_t H hb31
                    refine s_seq ?_
                    refine s_reg [0, 1, 2, 3, 4, 5, 6, 7] rfl ?_
                    refine o_ld (hG 3 rfl) rfl (ev_ldN (j := 0) rfl rfl Tryz.isAgg52 (sz (MetaS.len _) Tryz.sizeOf52) (sub_all _) rfl) (g0 rfl) rfl rfl ?_
                    refine o_run ft [1] rfl rfl ?_
                    refine o_ld (hG 3 rfl) rfl (ev_ld1 (j := 70) rfl rfl Tryz.isAgg3 (MetaS.sub_Phase _) rfl) (g0 rfl) rfl rfl ?_
                    refine o_run ft [3] rfl rfl ?_
                    refine o_ld (hG 3 rfl) rfl (ev_ld1 (j := 105) rfl rfl Tryz.isAgg3 (MetaS.sub_Got _) rfl) (g0 rfl) rfl rfl ?_
                    refine o_pu rfl (ev_build (cs := RespS.cells (⟨0, a0_m.Phase, a0_m.Got⟩ : RespS)) rfl rfl Tryz.zeroValue40 Tryz.runUnderlying40 pl40 (show Instr.fill _ (RespS.cells RespS.zero : List Value).toArray _ = some _ from (fill_cons rfl (s := [vi a0_m.Phase]) rfl rfl (RespS.set_N _ a0_m.Phase) (fill_cons rfl (s := [vi a0_m.Got]) rfl rfl (RespS.set_Got _ a0_m.Got) fill_nil)))) (g0 rfl) rfl rfl ?_
                    refine o_pu rfl (ev_build (cs := ChangeS.cells (⟨a0_m, (⟨0, a0_m.Phase, a0_m.Got⟩ : RespS)⟩ : ChangeS)) rfl rfl Tryz.zeroValue170 Tryz.runUnderlying170 pl170 (show Instr.fill _ (ChangeS.cells ChangeS.zero : List Value).toArray _ = some _ from (fill_cons rfl (s := MetaS.cells a0_m) rfl (MetaS.len _) (ChangeS.set_m _ a0_m) (fill_cons rfl (s := RespS.cells (⟨0, a0_m.Phase, a0_m.Got⟩ : RespS)) rfl (RespS.len _) (ChangeS.set_r _ (⟨0, a0_m.Phase, a0_m.Got⟩ : RespS)) fill_nil)))) (g0 rfl) rfl rfl ?_
                    refine oc (k_st (j := 0) rfl rfl rfl rfl (vs := ChangeS.cells (⟨a0_m, (⟨0, a0_m.Phase, a0_m.Got⟩ : RespS)⟩ : ChangeS)) rfl (sz (ChangeS.len _) Tryz.sizeOf170) (ChangeS.sc _) 0 rfl (spl_all ((ChangeS.len _).trans (ChangeS.len _).symm)) rfl (g0 rfl) rfl ?_)
                    refine o_nil ?_
                    refine q_then ?_
                    refine s_ret ?_
                    refine q_block_r ?_
                    refine q_then_r ?_
                    cases H
                    exact q_end (rs_1 Tryz.results114 (rv_cell (j := 0) rfl (hG 0 rfl) Tryz.isAgg170 (sz (ChangeS.len _) Tryz.sizeOf170) (sub_all _) rfl)) ⟨rfl, rfl, rfl⟩ [] rfl 1 rfl [] rfl 4 rfl
                  · intro hb31
                    have H := cnd_f H hb31
                    refine s_skip ?_
                    refine q_block ?_
                    refine q_then ?_
                    refine s_seq ?_
                    refine s_reg [0, 1] rfl ?_
                    obtain ⟨r32, Hc33, H⟩ := bind_some' H
                    refine oc (k_call (c_update_fails 1 r32 Hc33) Tryz.call184 rfl rfl rfl [] [] rfl rfl (g0 rfl) rfl rfl ?_)
                    rintro _ _ _ ⟨rfl, rfl, rfl⟩
                    dsimp only [app]
                    refine oc (k_st (j := 0) rfl rfl rfl rfl (vs := ChangeS.cells r32) rfl (sz (ChangeS.len _) Tryz.sizeOf170) (ChangeS.sc _) 0 rfl (spl_all ((ChangeS.len _).trans (ChangeS.len _).symm)) rfl (g0 rfl) rfl ?_)
                    refine o_nil ?_
                    refine q_then ?_
                    refine s_ret ?_
                    cases H
                    exact q_end (rs_1 Tryz.results114 (rv_cell (j := 0) rfl (hG 0 rfl) Tryz.isAgg170 (sz (ChangeS.len _) Tryz.sizeOf170) (sub_all _) rfl)) ⟨rfl, rfl, rfl⟩ [] rfl 1 rfl [] rfl 4 rfl

def slot_Write (a0_a : AreaS) (a1_slot : Int) (a2_k : Int) (a3_sectors : Int) (a4_b : List UInt8) (fl0 : FlashS) : Option (Int × FlashS) :=
(slot_From a1_slot a2_k a3_sectors).bind fun r3 =>
bnd (r3 == (-1)) fun b5 =>
jn (fun x8 =>
bif x8 then (
some (2, fl0)) else (
(slot_May a0_a a1_slot a2_k a3_sectors fl0).bind fun r10 =>
bif (!r10) then (
some (5, fl0)) else (
(area_Area_Blank a0_a r3 fl0).bind fun r13 =>
jn (fun (x17 : FlashS) =>
bif ((a4_b.length : Int) == 0) then (
some (0, x17)) else (
(area_Area_Program a0_a r3 (0 : Int) a4_b x17).bind fun r20 =>
some (r20.1, r20.2))) fun J16 =>
bif (!r13) then (
(area_Area_Erase a0_a r3 fl0).bind fun r24 =>
bif (r24.1 != 0) then (
some (r24.1, r24.2)) else (
J16 r24.2)) else (
J16 fl0)))) fun J7 =>
bif b5 then (
J7 true) else
J7 (decide ((a4_b.length : Int) > 320))

theorem c_slot_Write (fp0 : Nat) (a0_ap : Nat) (a0_a : AreaS) (a1_slot : Int) (a2_k : Int) (a3_sectors : Int) (a4_b : List UInt8) (A1 : Option Addr) (c2 : Nat) (fl0 : FlashS) (fl0g : FlashG) (r : Int × FlashS) (H : slot_Write a0_a a1_slot a2_k a3_sectors a4_b fl0 = some r) : Fn Tryz.prog 38 [(.pointer (some ⟨a0_ap, 0, none⟩)), (vi a1_slot), (vi a2_k), (vi a3_sectors), (.slice A1 a4_b.length c2)] [Sl E8 A1 c2 a4_b] [AreaT fp0 () a0_ap a0_a, FlashT fl0g fp0 fl0] (fun v D' G' => ∃ (g28 : FlashG), v = (vi r.1) ∧ D' = [] ∧ G' = [AreaT fp0 () a0_ap a0_a, FlashT g28 fp0 r.2]) := by
  unfold slot_Write at H
  refine fn_of Tryz.func38 rfl Tryz.ntmps38 rfl ?_
  intro w0 D0 G0
  dsimp only [app, initEnv, Nat.zero_add, Nat.reduceAdd]
  refine s_seq ?_
  refine s_reg [0] rfl ?_
  refine o_run ft [0] rfl rfl ?_
  refine o_nil ?_
  refine q_then ?_
  refine s_seq ?_
  refine s_reg [0, 1, 2, 3, 4] rfl ?_
  refine o_run ft [0, 1, 2] rfl rfl ?_
  obtain ⟨r3, Hc4, H⟩ := bind_some' H
  refine oc (k_call (c_slot_From a1_slot a2_k a3_sectors r3 Hc4) Tryz.call93 rfl rfl rfl [] [] rfl rfl (g0 rfl) rfl rfl ?_)
  rintro _ _ _ ⟨rfl, rfl, rfl⟩
  dsimp only [app]
  refine o_run ft [4] rfl rfl ?_
  refine o_nil ?_
  refine q_then ?_
  refine s_seq ?_
  refine s_block ?_
  refine s_seq ?_
  refine s_reg [0, 1, 2, 3, 4, 5, 6, 7, 8, 9, 10, 11] rfl ?_
  refine o_run ft [0] rfl rfl ?_
  refine o_pu rfl (ev_bin rfl rfl rfl rfl (eql_ptr_pn Tryz.runUnderlying81)) (g0 rfl) rfl rfl ?_
  refine o_run ft [2, 3, 4, 5, 6] rfl rfl ?_
  refine k_name 24 rfl ?_
  intro b5 hb6
  have H := bnd_eq H hb6
  refine o_jb 28 [11] [0, 1, 2, 3, 4, 10, 11, 13, 14, 15, 16, 18, 19, 20, 21, 22, 23, 24] H rfl ?_ ?_
  · intro x8 H
    refine o_run ft [11] rfl rfl ?_
    refine o_nil ?_
    refine q_then ?_
    refine s_cond rfl ?_ ?_
    · intro hb9
      have H := cnd_t H hb9
      refine s_seq ?_
      refine s_reg [0] rfl ?_
      refine o_run ft [0] rfl rfl ?_
      refine o_nil ?_
      refine q_then ?_
      refine s_ret ?_
      refine q_block_r ?_
      refine q_then_r ?_
      cases H
      exact q_end (rs_1 Tryz.results38 (rv_tmp rfl)) ⟨fl0g, rfl, rfl, rfl⟩ [] rfl 1 rfl [0, 0] rfl 0 rfl
    · intro hb9
      have H := cnd_f H hb9
      refine s_seq ?_
      refine s_reg [0, 1, 2, 3, 4, 5, 6] rfl ?_
      refine o_run ft [0, 1, 2, 3] rfl rfl ?_
      obtain ⟨r10, Hc11, H⟩ := bind_some' H
      refine oc (k_call (c_slot_May fp0 a0_ap a0_a a1_slot a2_k a3_sectors fl0 fl0g r10 Hc11) Tryz.call94 rfl rfl rfl [] [0, 0] rfl rfl (g0 rfl) rfl rfl ?_)
      rintro _ _ _ ⟨rfl, rfl, rfl⟩
      dsimp only [app]
      refine o_run ft [5, 6] rfl rfl ?_
      refine o_nil ?_
      refine q_then ?_
      refine s_cond rfl ?_ ?_
      · intro hb12
        have H := cnd_t H hb12
        refine s_seq ?_
        refine s_reg [0] rfl ?_
        refine o_run ft [0] rfl rfl ?_
        refine o_nil ?_
        refine q_then ?_
        refine s_ret ?_
        refine q_block_r ?_
        refine q_then_r ?_
        cases H
        exact q_end (rs_1 Tryz.results38 (rv_tmp rfl)) ⟨fl0g, rfl, rfl, rfl⟩ [] rfl 1 rfl [0, 0] rfl 0 rfl
      · intro hb12
        have H := cnd_f H hb12
        refine s_skip ?_
        refine q_block ?_
        refine q_then ?_
        refine s_seq ?_
        refine s_seq ?_
        refine s_reg [0, 1, 2, 3] rfl ?_
        refine o_run ft [0, 1] rfl rfl ?_
        obtain ⟨r13, Hc14, H⟩ := bind_some' H
        refine oc (k_call (c_area_Area_Blank fp0 a0_ap a0_a r3 fl0 fl0g r13 Hc14) Tryz.call95 rfl rfl rfl [] [0, 0] rfl rfl (g0 rfl) rfl rfl ?_)
        rintro _ _ _ ⟨rfl, rfl, rfl⟩
        dsimp only [app]
        refine o_run ft [3] rfl rfl ?_
        refine o_nil ?_
        refine q_then ?_
        refine q_join (fun (x17 : FlashS) (y18 : FlashG) => ⟨Sl E8 A1 c2 a4_b :: D0, AreaT fp0 () a0_ap a0_a :: FlashT y18 fp0 x17 :: G0, [(0, (.pointer (some ⟨a0_ap, 0, none⟩))), (4, (.slice A1 a4_b.length c2)), (11, (vi r3))]⟩) H ?_ ?_
        · intro x17 y18 H
          dsimp only
          refine q_then ?_
          refine s_seq ?_
          refine s_seq ?_
          refine s_reg [0, 1, 2] rfl ?_
          refine o_run ft [0] rfl rfl ?_
          refine o_pu rfl (ev_len_slice rfl rfl Tryz.runUnderlying22) (g0 rfl) rfl rfl ?_
          refine o_run ft [2] rfl rfl ?_
          refine o_nil ?_
          refine q_then ?_
          refine s_cond rfl ?_ ?_
          · intro hb19
            have H := cnd_t H hb19
            refine s_seq ?_
            refine s_reg [0] rfl ?_
            refine o_run ft [0] rfl rfl ?_
            refine o_nil ?_
            refine q_then ?_
            refine s_ret ?_
            refine q_then_r ?_
            cases H
            exact q_end (rs_1 Tryz.results38 (rv_tmp rfl)) ⟨y18, rfl, rfl, rfl⟩ [] rfl 1 rfl [0, 0] rfl 0 rfl
          · intro hb19
            have H := cnd_f H hb19
            refine s_skip ?_
            refine q_then ?_
            refine s_seq ?_
            refine s_reg [0, 1, 2, 3, 4] rfl ?_
            refine o_run ft [0, 1, 2] rfl rfl ?_
            obtain ⟨r20, Hc21, H⟩ := bind_some' H
            refine oc (k_call (c_area_Area_Program fp0 a0_ap a0_a r3 0 a4_b A1 c2 x17 y18 r20 Hc21) Tryz.call97 rfl rfl rfl [0] [0, 0] rfl rfl (g0 rfl) rfl rfl ?_)
            rintro _ _ _ ⟨g22, rfl, rfl, rfl⟩
            dsimp only [app]
            refine o_run ft [4] rfl rfl ?_
            refine o_nil ?_
            refine q_then ?_
            refine s_ret ?_
            cases H
            exact q_end (rs_1 Tryz.results38 (rv_tmp rfl)) ⟨g22, rfl, rfl, rfl⟩ [] rfl 1 rfl [0, 0] rfl 0 rfl
        · intro J16 J16h H
          refine s_cond rfl ?_ ?_
          · intro hb23
            have H := cnd_t H hb23
            refine s_seq ?_
            refine s_reg [0, 1, 2, 3] rfl ?_
            refine o_run ft [0, 1] rfl rfl ?_
            obtain ⟨r24, Hc25, H⟩ := bind_some' H
            refine oc (k_call (c_area_Area_Erase fp0 a0_ap a0_a r3 fl0 fl0g r24 Hc25) Tryz.call96 rfl rfl rfl [] [0, 0] rfl rfl (g0 rfl) rfl rfl ?_)
            rintro _ _ _ ⟨g26, rfl, rfl, rfl⟩
            dsimp only [app]
            refine o_run ft [3] rfl rfl ?_
            refine o_nil ?_
            refine q_then ?_
            refine s_seq ?_
            refine s_reg [0, 1] rfl ?_
            refine o_run ft [0, 1] rfl rfl ?_
            refine o_nil ?_
            refine q_then ?_
            refine s_cond rfl ?_ ?_
            · intro hb27
              have H := cnd_t H hb27
              refine s_seq ?_
              refine s_reg [0, 1] rfl ?_
              refine o_run ft [0, 1] rfl rfl ?_
              refine o_nil ?_
              refine q_then ?_
              refine s_ret ?_
              refine q_then_r ?_
              cases H
              exact q_end (rs_1 Tryz.results38 (rv_tmp rfl)) ⟨g26, rfl, rfl, rfl⟩ [] rfl 1 rfl [0, 0] rfl 0 rfl
            · intro hb27
              have H := cnd_f H hb27
              refine s_skip ?_
              exact k_wk (J16h r24.2 g26 H) [0, 4, 11] [0] 1 [0, 0] 0 rfl rfl rfl
          · intro hb23
            have H := cnd_f H hb23
            refine s_skip ?_
            exact k_wk (J16h fl0 fl0g H) [0, 4, 11] [0] 1 [0, 0] 0 rfl rfl rfl
  · intro J7 J7h H
    cases b5 with
    | true =>
      rw [cond_true] at H
      refine o_gnot rfl rfl rfl rfl rfl rfl rfl rfl ?_
      refine o_gnot rfl rfl rfl rfl rfl rfl rfl rfl ?_
      refine o_gnot rfl rfl rfl rfl rfl rfl rfl rfl ?_
      refine o_run ft [10] rfl rfl ?_
      exact k_wk (J7h true H) [28, 0, 1, 2, 3, 4, 10, 11, 13, 14, 15, 16, 18, 19, 20, 21, 22, 23, 24] [0] 1 [0, 0] 0 rfl rfl rfl
    | false =>
      rw [cond_false] at H
      refine o_run ft [7] rfl rfl ?_
      refine o_pu rfl (ev_len_slice rfl rfl Tryz.runUnderlying22) (g1 rfl rfl rfl rfl) rfl rfl ?_
      refine o_run ft [9, 10] rfl rfl ?_
      exact k_wk (J7h (decide ((a4_b.length : Int) > 320)) H) [28, 0, 1, 2, 3, 4, 10, 11, 13, 14, 15, 16, 18, 19, 20, 21, 22, 23, 24] [0] 1 [0, 0] 0 rfl rfl rfl

def ring_Put (a0_a : AreaS) (a1_b : List UInt8) (fl0 : FlashS) : Option (Int × FlashS) :=
(ring_find a0_a fl0).bind fun r3 =>
(ring_is a0_a).bind fun r7 =>
bif (!r7) then (
some (2, fl0)) else (
bif (decide ((a1_b.length : Int) > 156)) then (
some (10, fl0)) else (
(ring_May a0_a fl0).bind fun r11 =>
bif (!r11) then (
some (5, fl0)) else (
(cell_Put (wrap64 (r3.2.1 + 1)) a1_b).bind fun r14 =>
bif (r14.2 != 0) then (
some (r14.2, fl0)) else (
(ring_Next a0_a fl0).bind fun r19 =>
(area_Area_Blank a0_a r19 fl0).bind fun r21 =>
jn (fun (x25 : FlashS) =>
(area_Area_Program a0_a r19 (0 : Int) r14.1 x25).bind fun r27 =>
some (r27.1, r27.2)) fun J24 =>
bif (!r21) then (
(area_Area_Erase a0_a r19 fl0).bind fun r31 =>
bif (r31.1 != 0) then (
some (r31.1, r31.2)) else (
J24 r31.2)) else (
J24 fl0)))))

theorem c_ring_Put (fp0 : Nat) (a0_ap : Nat) (a0_a : AreaS) (a1_b : List UInt8) (A1 : Option Addr) (c2 : Nat) (fl0 : FlashS) (fl0g : FlashG) (r : Int × FlashS) (H : ring_Put a0_a a1_b fl0 = some r) : Fn Tryz.prog 41 [(.pointer (some ⟨a0_ap, 0, none⟩)), (.slice A1 a1_b.length c2)] [Sl E8 A1 c2 a1_b] [AreaT fp0 () a0_ap a0_a, FlashT fl0g fp0 fl0] (fun v D' G' => ∃ (g35 : FlashG), v = (vi r.1) ∧ D' = [] ∧ G' = [AreaT fp0 () a0_ap a0_a, FlashT g35 fp0 r.2]) := by
  unfold ring_Put at H
  refine fn_of Tryz.func41 rfl Tryz.ntmps41 rfl ?_
  intro w0 D0 G0
  dsimp only [app, initEnv, Nat.zero_add, Nat.reduceAdd]
  refine s_seq ?_
  refine s_reg [0] rfl ?_
  refine o_run ft [0] rfl rfl ?_
  refine o_nil ?_
  refine q_then ?_
  refine s_seq ?_
  refine s_reg [0, 1, 2, 3, 4, 5, 6, 7, 8, 9, 10] rfl ?_
  refine o_run ft [0] rfl rfl ?_
  obtain ⟨r3, Hc4, H⟩ := bind_some' H
  refine oc (k_call (c_ring_find fp0 a0_ap a0_a fl0 fl0g r3 Hc4) Tryz.call98 rfl rfl rfl [] [0, 0] rfl rfl (g0 rfl) rfl rfl ?_)
  rintro _ _ _ ⟨A5, c6, rfl, rfl, rfl⟩
  dsimp only [app]
  refine o_run ft [2, 3, 4, 5, 6, 7, 8, 9, 10] rfl rfl ?_
  refine o_nil ?_
  refine q_then ?_
  refine s_seq ?_
  refine s_block ?_
  refine s_seq ?_
  refine s_reg [0, 1, 2, 3] rfl ?_
  refine o_run ft [0] rfl rfl ?_
  obtain ⟨r7, Hc8, H⟩ := bind_some' H
  refine oc (k_call (c_ring_is fp0 a0_ap a0_a r7 Hc8) Tryz.call99 rfl rfl rfl [] [1] rfl rfl (g0 rfl) rfl rfl ?_)
  rintro _ _ _ ⟨rfl, rfl, rfl⟩
  dsimp only [app]
  refine o_run ft [2, 3] rfl rfl ?_
  refine o_nil ?_
  refine q_then ?_
  refine s_cond rfl ?_ ?_
  · intro hb9
    have H := cnd_t H hb9
    refine s_seq ?_
    refine s_reg [0] rfl ?_
    refine o_run ft [0] rfl rfl ?_
    refine o_nil ?_
    refine q_then ?_
    refine s_ret ?_
    refine q_block_r ?_
    refine q_then_r ?_
    cases H
    exact q_end (rs_1 Tryz.results41 (rv_tmp rfl)) ⟨fl0g, rfl, rfl, rfl⟩ [] rfl 2 rfl [0, 1] rfl 1 rfl
  · intro hb9
    have H := cnd_f H hb9
    refine s_seq ?_
    refine s_reg [0, 1, 2, 3] rfl ?_
    refine o_run ft [0] rfl rfl ?_
    refine o_pu rfl (ev_len_slice rfl rfl Tryz.runUnderlying22) (g0 rfl) rfl rfl ?_
    refine o_run ft [2, 3] rfl rfl ?_
    refine o_nil ?_
    refine q_then ?_
    refine s_cond rfl ?_ ?_
    · intro hb10
      have H := cnd_t H hb10
      refine s_seq ?_
      refine s_reg [0] rfl ?_
      refine o_run ft [0] rfl rfl ?_
      refine o_nil ?_
      refine q_then ?_
      refine s_ret ?_
      refine q_block_r ?_
      refine q_then_r ?_
      cases H
      exact q_end (rs_1 Tryz.results41 (rv_tmp rfl)) ⟨fl0g, rfl, rfl, rfl⟩ [] rfl 2 rfl [0, 1] rfl 1 rfl
    · intro hb10
      have H := cnd_f H hb10
      refine s_seq ?_
      refine s_reg [0, 1, 2, 3] rfl ?_
      refine o_run ft [0] rfl rfl ?_
      obtain ⟨r11, Hc12, H⟩ := bind_some' H
      refine oc (k_call (c_ring_May fp0 a0_ap a0_a fl0 fl0g r11 Hc12) Tryz.call100 rfl rfl rfl [] [0, 1] rfl rfl (g0 rfl) rfl rfl ?_)
      rintro _ _ _ ⟨rfl, rfl, rfl⟩
      dsimp only [app]
      refine o_run ft [2, 3] rfl rfl ?_
      refine o_nil ?_
      refine q_then ?_
      refine s_cond rfl ?_ ?_
      · intro hb13
        have H := cnd_t H hb13
        refine s_seq ?_
        refine s_reg [0] rfl ?_
        refine o_run ft [0] rfl rfl ?_
        refine o_nil ?_
        refine q_then ?_
        refine s_ret ?_
        refine q_block_r ?_
        refine q_then_r ?_
        cases H
        exact q_end (rs_1 Tryz.results41 (rv_tmp rfl)) ⟨fl0g, rfl, rfl, rfl⟩ [] rfl 2 rfl [0, 0] rfl 1 rfl
      · intro hb13
        have H := cnd_f H hb13
        refine s_skip ?_
        refine q_block ?_
        refine q_then ?_
        refine s_seq ?_
        refine s_reg [0, 1, 2, 3, 4, 5, 6, 7, 8] rfl ?_
        refine o_run ft [0, 1, 2] rfl rfl ?_
        obtain ⟨r14, Hc15, H⟩ := bind_some' H
        refine oc (k_call (c_cell_Put (wrap64 (r3.2.1 + 1)) a1_b A1 c2 r14 Hc15) Tryz.call101 rfl rfl rfl [1] [] rfl rfl (g0 rfl) rfl rfl ?_)
        rintro _ _ _ ⟨A16, c17, rfl, rfl, rfl⟩
        dsimp only [app]
        refine o_run ft [4, 5, 6, 7, 8] rfl rfl ?_
        refine o_nil ?_
        refine q_then ?_
        refine s_seq ?_
        refine s_seq ?_
        refine s_reg [0, 1] rfl ?_
        refine o_run ft [0, 1] rfl rfl ?_
        refine o_nil ?_
        refine q_then ?_
        refine s_cond rfl ?_ ?_
        · intro hb18
          have H := cnd_t H hb18
          refine s_seq ?_
          refine s_reg [0, 1] rfl ?_
          refine o_run ft [0, 1] rfl rfl ?_
          refine o_nil ?_
          refine q_then ?_
          refine s_ret ?_
          refine q_then_r ?_
          cases H
          exact q_end (rs_1 Tryz.results41 (rv_tmp rfl)) ⟨fl0g, rfl, rfl, rfl⟩ [] rfl 3 rfl [1, 1] rfl 2 rfl
        · intro hb18
          have H := cnd_f H hb18
          refine s_skip ?_
          refine q_then ?_
          refine s_seq ?_
          refine s_reg [0, 1, 2] rfl ?_
          refine o_run ft [0] rfl rfl ?_
          obtain ⟨r19, Hc20, H⟩ := bind_some' H
          refine oc (k_call (c_ring_Next fp0 a0_ap a0_a fl0 fl0g r19 Hc20) Tryz.call102 rfl rfl rfl [] [1, 1] rfl rfl (g0 rfl) rfl rfl ?_)
          rintro _ _ _ ⟨rfl, rfl, rfl⟩
          dsimp only [app]
          refine o_run ft [2] rfl rfl ?_
          refine o_nil ?_
          refine q_then ?_
          refine s_seq ?_
          refine s_seq ?_
          refine s_reg [0, 1, 2, 3] rfl ?_
          refine o_run ft [0, 1] rfl rfl ?_
          obtain ⟨r21, Hc22, H⟩ := bind_some' H
          refine oc (k_call (c_area_Area_Blank fp0 a0_ap a0_a r19 fl0 fl0g r21 Hc22) Tryz.call95 rfl rfl rfl [] [0, 0] rfl rfl (g0 rfl) rfl rfl ?_)
          rintro _ _ _ ⟨rfl, rfl, rfl⟩
          dsimp only [app]
          refine o_run ft [3] rfl rfl ?_
          refine o_nil ?_
          refine q_then ?_
          refine q_join (fun (x25 : FlashS) (y26 : FlashG) => ⟨Sl E8 A16 c17 r14.1 :: Sl E8 A5 c6 r3.2.2.1 :: Sl E8 A1 c2 a1_b :: D0, AreaT fp0 () a0_ap a0_a :: FlashT y26 fp0 x25 :: Spare A16 r14.1.length c17 1 :: Spare A5 r3.2.2.1.length c6 1 :: G0, [(0, (.pointer (some ⟨a0_ap, 0, none⟩))), (9, (.slice A16 r14.1.length c17)), (11, (vi r19))]⟩) H ?_ ?_
          · intro x25 y26 H
            dsimp only
            refine q_then ?_
            refine s_seq ?_
            refine s_reg [0, 1, 2, 3, 4] rfl ?_
            refine o_run ft [0, 1, 2] rfl rfl ?_
            obtain ⟨r27, Hc28, H⟩ := bind_some' H
            refine oc (k_call (c_area_Area_Program fp0 a0_ap a0_a r19 0 r14.1 A16 c17 x25 y26 r27 Hc28) Tryz.call97 rfl rfl rfl [0] [0, 0] rfl rfl (g0 rfl) rfl rfl ?_)
            rintro _ _ _ ⟨g29, rfl, rfl, rfl⟩
            dsimp only [app]
            refine o_run ft [4] rfl rfl ?_
            refine o_nil ?_
            refine q_then ?_
            refine s_ret ?_
            cases H
            exact q_end (rs_1 Tryz.results41 (rv_tmp rfl)) ⟨g29, rfl, rfl, rfl⟩ [] rfl 3 rfl [0, 0] rfl 2 rfl
          · intro J24 J24h H
            refine s_cond rfl ?_ ?_
            · intro hb30
              have H := cnd_t H hb30
              refine s_seq ?_
              refine s_reg [0, 1, 2, 3] rfl ?_
              refine o_run ft [0, 1] rfl rfl ?_
              obtain ⟨r31, Hc32, H⟩ := bind_some' H
              refine oc (k_call (c_area_Area_Erase fp0 a0_ap a0_a r19 fl0 fl0g r31 Hc32) Tryz.call96 rfl rfl rfl [] [0, 0] rfl rfl (g0 rfl) rfl rfl ?_)
              rintro _ _ _ ⟨g33, rfl, rfl, rfl⟩
              dsimp only [app]
              refine o_run ft [3] rfl rfl ?_
              refine o_nil ?_
              refine q_then ?_
              refine s_seq ?_
              refine s_reg [0, 1] rfl ?_
              refine o_run ft [0, 1] rfl rfl ?_
              refine o_nil ?_
              refine q_then ?_
              refine s_cond rfl ?_ ?_
              · intro hb34
                have H := cnd_t H hb34
                refine s_seq ?_
                refine s_reg [0, 1] rfl ?_
                refine o_run ft [0, 1] rfl rfl ?_
                refine o_nil ?_
                refine q_then ?_
                refine s_ret ?_
                refine q_then_r ?_
                cases H
                exact q_end (rs_1 Tryz.results41 (rv_tmp rfl)) ⟨g33, rfl, rfl, rfl⟩ [] rfl 3 rfl [0, 0] rfl 2 rfl
              · intro hb34
                have H := cnd_f H hb34
                refine s_skip ?_
                exact k_wk (J24h r31.2 g33 H) [0, 9, 11] [0, 1, 2] 3 [0, 0, 0, 0] 0 rfl rfl rfl
            · intro hb30
              have H := cnd_f H hb30
              refine s_skip ?_
              exact k_wk (J24h fl0 fl0g H) [0, 9, 11] [0, 1, 2] 3 [0, 0, 0, 0] 0 rfl rfl rfl

def update_Do (a0_m : MetaS) (a1_q : Req) (a2_f : FactS) (a3_quota : Int) : Option (MetaS × RespS) :=
(meta_Right a0_m).bind fun r8 =>
bif (!r8) then (
some (a0_m, (⟨1, 0, 0⟩ : RespS))) else (
(update_does a0_m (⟨a1_q.Kind, a1_q.N, a1_q.Bytes⟩ : Req) a2_f a3_quota).bind fun r11 =>
bif (r11.r.Err != 0) then (
some (a0_m, r11.r)) else (
some (r11.m, r11.r)))

theorem c_update_Do (a0_m : MetaS) (a1_q : Req) (A1 : Option Addr) (c2 : Nat) (a2_f : FactS) (a3_quota : Int) (r : MetaS × RespS) (H : update_Do a0_m a1_q a2_f a3_quota = some r) : Fn Tryz.prog 49 [(.agg (MetaS.cells a0_m).toArray), (.agg ([vi a1_q.Kind, vi a1_q.N, .slice A1 a1_q.Bytes.length c2]).toArray), (.agg (FactS.cells a2_f).toArray), (vi a3_quota)] [Sl E8 A1 c2 a1_q.Bytes] [] (fun v D' G' => v = (.tuple #[(.agg (MetaS.cells r.1).toArray), (.agg (RespS.cells r.2).toArray)]) ∧ D' = [] ∧ G' = []) := by
  unfold update_Do at H
  refine fn_of Tryz.func49 rfl Tryz.ntmps49 rfl ?_
  intro w0 D0 G0
  dsimp only [app, initEnv, Nat.zero_add, Nat.reduceAdd]
  refine s_seq ?_
  refine s_reg [0, 1, 2, 3, 4] rfl ?_
  refine oc (k_box rfl rfl rfl (cs := MetaS.cells a0_m) rfl (g0 rfl) rfl rfl ?_)
  intro b3
  refine oc (k_box rfl rfl rfl (cs := [vi a1_q.Kind, vi a1_q.N, .slice A1 a1_q.Bytes.length c2]) rfl (g0 rfl) rfl rfl ?_)
  intro b4
  refine oc (k_box rfl rfl rfl (cs := FactS.cells a2_f) rfl (g0 rfl) rfl rfl ?_)
  intro b5
  refine oc (k_alloc rfl rfl Tryz.zeroValue52 (cs := MetaS.cells MetaS.zero) rfl (g0 rfl) rfl rfl ?_)
  intro b6
  refine oc (k_alloc rfl rfl Tryz.zeroValue40 (cs := RespS.cells RespS.zero) rfl (g0 rfl) rfl rfl ?_)
  intro b7
  refine o_nil ?_
  refine q_then ?_
  refine s_seq ?_
  refine s_seq ?_
  refine s_reg [0, 1, 2] rfl ?_
  refine o_ld (hG 4 rfl) rfl (ev_ldN (j := 0) rfl rfl Tryz.isAgg52 (sz (MetaS.len _) Tryz.sizeOf52) (sub_all _) rfl) (g0 rfl) rfl rfl ?_
  obtain ⟨r8, Hc9, H⟩ := bind_some' H
  refine oc (k_call (c_meta_Right a0_m r8 Hc9) Tryz.call103 rfl rfl rfl [] [] rfl rfl (g0 rfl) rfl rfl ?_)
  rintro _ _ _ ⟨rfl, rfl, rfl⟩
  dsimp only [app]
  refine o_run ft [2] rfl rfl ?_
  refine o_nil ?_
  refine q_then ?_
  refine s_cond rfl ?_ ?_
  · intro hb10
    have H := cnd_t H hb10
    refine s_seq ?_
    refine s_reg [0, 1, 2, 3] rfl ?_
    refine o_ld (hG 4 rfl) rfl (ev_ldN (j := 0) rfl rfl Tryz.isAgg52 (sz (MetaS.len _) Tryz.sizeOf52) (sub_all _) rfl) (g0 rfl) rfl rfl ?_
    refine o_pu rfl (ev_build (cs := RespS.cells (⟨1, 0, 0⟩ : RespS)) rfl rfl Tryz.zeroValue40 Tryz.runUnderlying40 pl40 (show Instr.fill _ (RespS.cells RespS.zero : List Value).toArray _ = some _ from (fill_cons rfl (s := [vi 1]) rfl rfl (RespS.set_Err _ 1) fill_nil))) (g0 rfl) rfl rfl ?_
    refine oc (k_st (j := 0) rfl rfl rfl rfl (vs := MetaS.cells a0_m) rfl (sz (MetaS.len _) Tryz.sizeOf52) (MetaS.sc _) 1 rfl (spl_all ((MetaS.len _).trans (MetaS.len _).symm)) rfl (g0 rfl) rfl ?_)
    refine oc (k_st (j := 0) rfl rfl rfl rfl (vs := RespS.cells (⟨1, 0, 0⟩ : RespS)) rfl (sz (RespS.len _) Tryz.sizeOf40) (RespS.sc _) 0 rfl (spl_all ((RespS.len _).trans (RespS.len _).symm)) rfl (g0 rfl) rfl ?_)
    refine o_nil ?_
    refine q_then ?_
    refine s_ret ?_
    refine q_then_r ?_
    cases H
    exact q_end (rs_2 Tryz.results49 (rv_cell (j := 0) rfl (hG 1 rfl) Tryz.isAgg52 (sz (MetaS.len _) Tryz.sizeOf52) (sub_all _) rfl) (rv_cell (j := 0) rfl (hG 0 rfl) Tryz.isAgg40 (sz (RespS.len _) Tryz.sizeOf40) (sub_all _) rfl)) ⟨rfl, rfl, rfl⟩ [] rfl 1 rfl [] rfl 5 rfl
  · intro hb10
    have H := cnd_f H hb10
    refine s_skip ?_
    refine q_then ?_
    refine s_seq ?_
    refine s_reg [0, 1, 2, 3, 4, 5, 6] rfl ?_
    refine o_ld (hG 4 rfl) rfl (ev_ldN (j := 0) rfl rfl Tryz.isAgg52 (sz (MetaS.len _) Tryz.sizeOf52) (sub_all _) rfl) (g0 rfl) rfl rfl ?_
    refine o_ld (hG 3 rfl) rfl (ev_ldN (j := 0) (s := [vi a1_q.Kind, vi a1_q.N, .slice A1 a1_q.Bytes.length c2]) rfl rfl Tryz.isAgg44 (sz rfl Tryz.sizeOf44) (sub_all _) rfl) (g0 rfl) rfl rfl ?_
    refine o_ld (hG 2 rfl) rfl (ev_ldN (j := 0) rfl rfl Tryz.isAgg60 (sz (FactS.len _) Tryz.sizeOf60) (sub_all _) rfl) (g0 rfl) rfl rfl ?_
    refine o_run ft [3] rfl rfl ?_
    obtain ⟨r11, Hc12, H⟩ := bind_some' H
    refine oc (k_call (c_update_does a0_m (⟨a1_q.Kind, a1_q.N, a1_q.Bytes⟩ : Req) A1 c2 a2_f a3_quota r11 Hc12) Tryz.call114 rfl rfl rfl [0] [] rfl rfl (g0 rfl) rfl rfl ?_)
    rintro _ _ _ ⟨rfl, rfl, rfl⟩
    dsimp only [app]
    refine oc (k_alloc rfl rfl Tryz.zeroValue170 (cs := ChangeS.cells ChangeS.zero) rfl (g0 rfl) rfl rfl ?_)
    intro b13
    refine oc (k_st (j := 0) rfl rfl rfl rfl (vs := ChangeS.cells r11) rfl (sz (ChangeS.len _) Tryz.sizeOf170) (ChangeS.sc _) 0 rfl (spl_all ((ChangeS.len _).trans (ChangeS.len _).symm)) rfl (g0 rfl) rfl ?_)
    refine o_nil ?_
    refine q_then ?_
    refine s_seq ?_
    refine s_seq ?_
    refine s_reg [0, 1, 2, 3] rfl ?_
    refine o_run ft [0, 1] rfl rfl ?_
    refine o_ld (hG 0 rfl) rfl (ev_ld1 (j := 107) rfl rfl Tryz.isAgg31 (sub_sub (ChangeS.sub_r _) (RespS.sub_Err _) rfl) rfl) (g0 rfl) rfl rfl ?_
    refine o_run ft [3] rfl rfl ?_
    refine o_nil ?_
    refine q_then ?_
    refine s_cond rfl ?_ ?_
    · intro hb14
      have H := cnd_t H hb14
      refine s_seq ?_
      refine s_draw mixed [(0, [3, 4], Has b3 0 (MetaS.cells a0_m)), (2, [4], Has b13 0 (ChangeS.cells r11))] ?_
      refine a_l1 0 0 rfl (by kernel_rfl) rfl (ev_ldN (j := 0) rfl rfl Tryz.isAgg52 (sz (MetaS.len _) Tryz.sizeOf52) (sub_all _) rfl) (fun _ _ _ h => h) (g0 rfl) rfl rfl ?_
      refine a_run ft [1] rfl (fun _ _ _ _ _ h => h) (by kernel_rfl) rfl ?_
      refine a_l1 2 1 rfl (by kernel_rfl) rfl (ev_ldN (j := 107) rfl rfl Tryz.isAgg40 (sz (RespS.len _) Tryz.sizeOf40) (ChangeS.sub_r _) rfl) (fun _ _ _ h => h) (g0 rfl) rfl rfl ?_
      refine ac 3 (by kernel_rfl) (sl_cons (hG 5 rfl) (sl_cons (hG 0 rfl) sl_nil)) ?_
      refine k_st (j := 0) rfl rfl rfl rfl (vs := MetaS.cells a0_m) rfl (sz (MetaS.len _) Tryz.sizeOf52) (MetaS.sc _) 2 rfl (spl_all ((MetaS.len _).trans (MetaS.len _).symm)) rfl (g0 rfl) rfl ?_
      refine ac 4 (by kernel_rfl) (sl_end (by kernel_rfl) (sl_cons (hG 0 rfl) sl_nil)) ?_
      refine k_st (j := 0) rfl rfl rfl rfl (vs := RespS.cells r11.r) rfl (sz (RespS.len _) Tryz.sizeOf40) (RespS.sc _) 1 rfl (spl_all ((RespS.len _).trans (RespS.len _).symm)) rfl (g0 rfl) rfl ?_
      refine a_done (by kernel_rfl) (sl_end (by kernel_rfl) (sl_end (by kernel_rfl) sl_nil)) ?_
      refine q_then ?_
      refine s_ret ?_
      refine q_then_r ?_
      cases H
      exact q_end (rs_2 Tryz.results49 (rv_cell (j := 0) rfl (hG 2 rfl) Tryz.isAgg52 (sz (MetaS.len _) Tryz.sizeOf52) (sub_all _) rfl) (rv_cell (j := 0) rfl (hG 1 rfl) Tryz.isAgg40 (sz (RespS.len _) Tryz.sizeOf40) (sub_all _) rfl)) ⟨rfl, rfl, rfl⟩ [] rfl 1 rfl [] rfl 6 rfl
    · intro hb14
      have H := cnd_f H hb14
      refine s_skip ?_
      refine q_then ?_
      refine s_seq ?_
      refine s_draw mixed [(1, [4, 5], Has b13 0 (ChangeS.cells r11)), (3, [5], Has b13 0 (ChangeS.cells r11))] ?_
      refine a_run ft [0] rfl (fun _ _ _ _ _ h => h) (by kernel_rfl) rfl ?_
      refine a_l1 1 0 rfl (by kernel_rfl) rfl (ev_ldN (j := 0) rfl rfl Tryz.isAgg52 (sz (MetaS.len _) Tryz.sizeOf52) (ChangeS.sub_m _) rfl) (fun _ _ _ h => h) (g0 rfl) rfl rfl ?_
      refine a_run ft [2] rfl (fun _ _ _ _ _ h => h) (by kernel_rfl) rfl ?_
      refine a_l1 3 1 rfl (by kernel_rfl) rfl (ev_ldN (j := 107) rfl rfl Tryz.isAgg40 (sz (RespS.len _) Tryz.sizeOf40) (ChangeS.sub_r _) rfl) (fun _ _ _ h => h) (g0 rfl) rfl rfl ?_
      refine ac 4 (by kernel_rfl) (sl_cons (hG 0 rfl) (sl_cons (hG 0 rfl) sl_nil)) ?_
      refine k_st (j := 0) rfl rfl rfl rfl (vs := MetaS.cells r11.m) rfl (sz (MetaS.len _) Tryz.sizeOf52) (MetaS.sc _) 2 rfl (spl_all ((MetaS.len _).trans (MetaS.len _).symm)) rfl (g0 rfl) rfl ?_
      refine ac 5 (by kernel_rfl) (sl_end (by kernel_rfl) (sl_cons (hG 0 rfl) sl_nil)) ?_
      refine k_st (j := 0) rfl rfl rfl rfl (vs := RespS.cells r11.r) rfl (sz (RespS.len _) Tryz.sizeOf40) (RespS.sc _) 1 rfl (spl_all ((RespS.len _).trans (RespS.len _).symm)) rfl (g0 rfl) rfl ?_
      refine a_done (by kernel_rfl) (sl_end (by kernel_rfl) (sl_end (by kernel_rfl) sl_nil)) ?_
      refine q_then ?_
      refine s_ret ?_
      cases H
      exact q_end (rs_2 Tryz.results49 (rv_cell (j := 0) rfl (hG 2 rfl) Tryz.isAgg52 (sz (MetaS.len _) Tryz.sizeOf52) (sub_all _) rfl) (rv_cell (j := 0) rfl (hG 1 rfl) Tryz.isAgg40 (sz (RespS.len _) Tryz.sizeOf40) (sub_all _) rfl)) ⟨rfl, rfl, rfl⟩ [] rfl 1 rfl [] rfl 6 rfl

end Go.Proofs.YtpdoioeckiiegaaGreatDoor.Wl
