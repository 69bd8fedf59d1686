import Derived.Test.YtphbbnlbfbhcaaaDoorWlW
import Derived.Test.YtphbbnlbfbhcaaaDoorWlX0
import Derived.Test.YtphbbnlbfbhcaaaDoorWlX1
import Derived.Test.YtphbbnlbfbhcaaaDoorWlX2
set_option linter.unusedSimpArgs false
set_option linter.unusedVariables false
set_option maxRecDepth 10000
namespace Go.Proofs.YtphbbnlbfbhcaaaDoor.Wl
open Go.RowKit Go.Proofs
def update_boot (a0_m : MetaS) (a1_f : FactS) : Option ChangeS :=
bnd (a0_m.Phase != 3) fun b5 =>
jn (fun x8 =>
bif x8 then (
some (⟨a0_m, (⟨0, a0_m.Active, 0⟩ : RespS)⟩ : ChangeS)) else (
bif (a0_m.Trials == 0) then (
(update_idle a0_m).bind fun r11 =>
(update_alone r11).bind fun r13 =>
some ({ ((⟨a0_m, (⟨0, a0_m.Active, 0⟩ : RespS)⟩ : ChangeS) : ChangeS) with m := r13 })) else (
bnd ({ ((⟨a0_m, (⟨0, a0_m.Active, 0⟩ : RespS)⟩ : ChangeS) : ChangeS) with m := { ((⟨a0_m, (⟨0, a0_m.Active, 0⟩ : RespS)⟩ : ChangeS).m : MetaS) with Trials := (wrap64 (((⟨a0_m, (⟨0, a0_m.Active, 0⟩ : RespS)⟩ : ChangeS).m).Trials - 1)) } }) fun x15 =>
(meta_Other a0_m).bind fun r17 =>
some ({ (x15 : ChangeS) with r := { (x15.r : RespS) with N := r17 } })))) fun J7 =>
bif b5 then (
J7 true) else
J7 a1_f.Worn

theorem c_update_boot (a0_m : MetaS) (a1_f : FactS) (r : ChangeS) (H : update_boot a0_m a1_f = some r) : Fn Tryd.prog 80 [(.agg (MetaS.cells a0_m).toArray), (.agg (FactS.cells a1_f).toArray)] [] [] (fun v D' G' => v = (.agg (ChangeS.cells r).toArray) ∧ D' = [] ∧ G' = []) := by
  unfold update_boot at H
  refine fn_of Tryd.func80 rfl Tryd.ntmps80 rfl ?_
  intro w0 D0 G0
  dsimp only [app, initEnv, Nat.zero_add, Nat.reduceAdd]
  refine s_seq ?_
  refine s_reg [0, 1, 2] rfl ?_
  refine oc (k_box rfl rfl rfl (cs := MetaS.cells a0_m) rfl (g0 rfl) rfl rfl ?_)
  intro b1
  refine oc (k_box rfl rfl rfl (cs := FactS.cells a1_f) rfl (g0 rfl) rfl rfl ?_)
  intro b2
  refine oc (k_alloc rfl rfl Tryd.zeroValue109 (cs := ChangeS.cells ChangeS.zero) rfl (g0 rfl) rfl rfl ?_)
  intro b3
  refine o_nil ?_
  refine q_then ?_
  refine s_seq ?_
  refine s_reg [0, 1, 2, 3, 4, 5, 6] rfl ?_
  refine o_ld (hG 2 rfl) rfl (ev_ldN (j := 0) rfl rfl Tryd.isAgg74 (sz (MetaS.len _) Tryd.sizeOf74) (sub_all _) rfl) (g0 rfl) rfl rfl ?_
  refine o_pu rfl (ev_fieldAddr rfl rfl Tryd.runUnderlying74 rfl Tryd.sizeOf3 rfl rfl) (g0 rfl) rfl rfl ?_
  refine o_ld (hG 2 rfl) rfl (ev_ld1 (j := 0) rfl rfl Tryd.isAgg3 (MetaS.sub_Active _) rfl) (g0 rfl) rfl rfl ?_
  refine o_pu rfl (ev_build (cs := RespS.cells (⟨0, a0_m.Active, 0⟩ : RespS)) rfl rfl Tryd.zeroValue48 Tryd.runUnderlying48 pl48 (show Instr.fill _ (RespS.cells RespS.zero : List Value).toArray _ = some _ from (fill_cons rfl (s := [vi a0_m.Active]) rfl rfl (RespS.set_N _ a0_m.Active) fill_nil))) (g0 rfl) rfl rfl ?_
  refine o_pu rfl (ev_build (cs := ChangeS.cells (⟨a0_m, (⟨0, a0_m.Active, 0⟩ : RespS)⟩ : ChangeS)) rfl rfl Tryd.zeroValue109 Tryd.runUnderlying109 pl109 (show Instr.fill _ (ChangeS.cells ChangeS.zero : List Value).toArray _ = some _ from (fill_cons rfl (s := MetaS.cells a0_m) rfl (MetaS.len _) (ChangeS.set_m _ a0_m) (fill_cons rfl (s := RespS.cells (⟨0, a0_m.Active, 0⟩ : RespS)) rfl (RespS.len _) (ChangeS.set_r _ (⟨0, a0_m.Active, 0⟩ : RespS)) fill_nil)))) (g0 rfl) rfl rfl ?_
  refine oc (k_alloc rfl rfl Tryd.zeroValue109 (cs := ChangeS.cells ChangeS.zero) rfl (g0 rfl) rfl rfl ?_)
  intro b4
  refine oc (k_st (j := 0) rfl rfl rfl rfl (vs := ChangeS.cells (⟨a0_m, (⟨0, a0_m.Active, 0⟩ : RespS)⟩ : ChangeS)) rfl (sz (ChangeS.len _) Tryd.sizeOf109) (ChangeS.sc _) 0 rfl (spl_all ((ChangeS.len _).trans (ChangeS.len _).symm)) rfl (g0 rfl) rfl ?_)
  refine o_nil ?_
  refine q_then ?_
  refine s_seq ?_
  refine s_seq ?_
  refine s_reg [0, 1, 2, 3, 4, 5, 6] rfl ?_
  refine o_pu rfl (ev_fieldAddr rfl rfl Tryd.runUnderlying74 rfl Tryd.sizeOf3 rfl rfl) (g0 rfl) rfl rfl ?_
  refine o_ld (hG 3 rfl) rfl (ev_ld1 (j := 70) rfl rfl Tryd.isAgg3 (MetaS.sub_Phase _) rfl) (g0 rfl) rfl rfl ?_
  refine o_pu rfl (ev_bin rfl rfl rfl rfl (neq_i _ 3)) (g0 rfl) rfl rfl ?_
  refine o_pu rfl (ev_move rfl rfl) (g0 rfl) rfl rfl ?_
  refine k_name 14 rfl ?_
  intro b5 hb6
  have H := bnd_eq H hb6
  refine o_jb 17 [] [0, 1, 2, 3, 4, 5, 6, 7, 8, 9, 10, 11, 12, 13, 14] H rfl ?_ ?_
  · intro x8 H
    refine o_nil ?_
    refine q_then ?_
    refine s_cond rfl ?_ ?_
    · intro hb9
      have H := cnd_t H hb9
      refine s_seq ?_
      refine s_reg [0, 1] rfl ?_
      refine o_ld (hG 0 rfl) rfl (ev_ldN (j := 0) rfl rfl Tryd.isAgg109 (sz (ChangeS.len _) Tryd.sizeOf109) (sub_all _) rfl) (g0 rfl) rfl rfl ?_
      refine oc (k_st (j := 0) rfl rfl rfl rfl (vs := ChangeS.cells (⟨a0_m, (⟨0, a0_m.Active, 0⟩ : RespS)⟩ : ChangeS)) rfl (sz (ChangeS.len _) Tryd.sizeOf109) (ChangeS.sc _) 1 rfl (spl_all ((ChangeS.len _).trans (ChangeS.len _).symm)) rfl (g0 rfl) rfl ?_)
      refine o_nil ?_
      refine q_then ?_
      refine s_ret ?_
      refine q_then_r ?_
      cases H
      exact q_end (rs_1 Tryd.results80 (rv_cell (j := 0) rfl (hG 1 rfl) Tryd.isAgg109 (sz (ChangeS.len _) Tryd.sizeOf109) (sub_all _) rfl)) ⟨rfl, rfl, rfl⟩ [] rfl 0 rfl [] rfl 4 rfl
    · intro hb9
      have H := cnd_f H hb9
      refine s_skip ?_
      refine q_then ?_
      refine s_seq ?_
      refine s_seq ?_
      refine s_reg [0, 1, 2] rfl ?_
      refine o_pu rfl (ev_fieldAddr rfl rfl Tryd.runUnderlying74 rfl Tryd.sizeOf3 rfl rfl) (g0 rfl) rfl rfl ?_
      refine o_ld (hG 3 rfl) rfl (ev_ld1 (j := 106) rfl rfl Tryd.isAgg3 (MetaS.sub_Trials _) rfl) (g0 rfl) rfl rfl ?_
      refine o_pu rfl (ev_bin rfl rfl rfl rfl (eql_i _ 0)) (g0 rfl) rfl rfl ?_
      refine o_nil ?_
      refine q_then ?_
      refine s_cond rfl ?_ ?_
      · intro hb10
        have H := cnd_t H hb10
        refine s_seq ?_
        refine s_reg [0, 1, 2, 3, 4] rfl ?_
        refine o_ld (hG 3 rfl) rfl (ev_ldN (j := 0) rfl rfl Tryd.isAgg74 (sz (MetaS.len _) Tryd.sizeOf74) (sub_all _) rfl) (g0 rfl) rfl rfl ?_
        obtain ⟨r11, Hc12, H⟩ := bind_some' H
        refine oc (k_call (c_update_idle a0_m r11 Hc12) Tryd.call112 rfl rfl rfl [] [] rfl rfl (g0 rfl) rfl rfl ?_)
        rintro _ _ _ ⟨rfl, rfl, rfl⟩
        dsimp only [app]
        obtain ⟨r13, Hc14, H⟩ := bind_some' H
        refine oc (k_call (c_update_alone r11 r13 Hc14) Tryd.call106 rfl rfl rfl [] [] rfl rfl (g0 rfl) rfl rfl ?_)
        rintro _ _ _ ⟨rfl, rfl, rfl⟩
        dsimp only [app]
        refine o_pu rfl (ev_fieldAddr rfl rfl Tryd.runUnderlying109 rfl Tryd.sizeOf74 rfl rfl) (g0 rfl) rfl rfl ?_
        refine oc (k_st (j := 0) rfl rfl rfl rfl (vs := MetaS.cells r13) rfl (sz (MetaS.len _) Tryd.sizeOf74) (MetaS.sc _) 0 rfl (ChangeS.set_m _ r13) rfl (g0 rfl) rfl ?_)
        refine o_nil ?_
        refine q_then ?_
        refine s_seq ?_
        refine s_reg [0, 1] rfl ?_
        refine o_ld (hG 0 rfl) rfl (ev_ldN (j := 0) rfl rfl Tryd.isAgg109 (sz (ChangeS.len _) Tryd.sizeOf109) (sub_all _) rfl) (g0 rfl) rfl rfl ?_
        refine oc (k_st (j := 0) rfl rfl rfl rfl (vs := ChangeS.cells ({ ((⟨a0_m, (⟨0, a0_m.Active, 0⟩ : RespS)⟩ : ChangeS) : ChangeS) with m := r13 })) rfl (sz (ChangeS.len _) Tryd.sizeOf109) (ChangeS.sc _) 1 rfl (spl_all ((ChangeS.len _).trans (ChangeS.len _).symm)) rfl (g0 rfl) rfl ?_)
        refine o_nil ?_
        refine q_then ?_
        refine s_ret ?_
        refine q_then_r ?_
        cases H
        exact q_end (rs_1 Tryd.results80 (rv_cell (j := 0) rfl (hG 1 rfl) Tryd.isAgg109 (sz (ChangeS.len _) Tryd.sizeOf109) (sub_all _) rfl)) ⟨rfl, rfl, rfl⟩ [] rfl 0 rfl [] rfl 4 rfl
      · intro hb10
        have H := cnd_f H hb10
        refine s_skip ?_
        refine q_then ?_
        refine s_seq ?_
        refine s_reg [0, 1, 2, 3, 4, 5, 6] rfl ?_
        refine o_pu rfl (ev_fieldAddr rfl rfl Tryd.runUnderlying109 rfl Tryd.sizeOf74 rfl rfl) (g0 rfl) rfl rfl ?_
        refine o_pu rfl (ev_fieldAddr rfl rfl Tryd.runUnderlying74 rfl Tryd.sizeOf3 rfl rfl) (g0 rfl) rfl rfl ?_
        refine o_ld (hG 0 rfl) rfl (ev_ld1 (j := 106) rfl rfl Tryd.isAgg3 (sub_sub (ChangeS.sub_m _) (MetaS.sub_Trials _) rfl) rfl) (g0 rfl) rfl rfl ?_
        refine o_pu rfl (ev_bin rfl rfl rfl rfl (sub_i _ 1)) (g0 rfl) rfl rfl ?_
        refine o_pu rfl (ev_fieldAddr rfl rfl Tryd.runUnderlying109 rfl Tryd.sizeOf74 rfl rfl) (g0 rfl) rfl rfl ?_
        refine o_pu rfl (ev_fieldAddr rfl rfl Tryd.runUnderlying74 rfl Tryd.sizeOf3 rfl rfl) (g0 rfl) rfl rfl ?_
        refine oc (k_st (j := 106) rfl rfl rfl rfl (vs := [vi (wrap64 (((⟨a0_m, (⟨0, a0_m.Active, 0⟩ : RespS)⟩ : ChangeS).m).Trials - 1))]) rfl (sz rfl Tryd.sizeOf3) rfl 0 rfl (spl_in (ChangeS.sub_m _) (MetaS.set_Trials _ (wrap64 (((⟨a0_m, (⟨0, a0_m.Active, 0⟩ : RespS)⟩ : ChangeS).m).Trials - 1))) (ChangeS.set_m _ _) rfl) rfl (g0 rfl) rfl ?_)
        obtain ⟨x15, hx16⟩ : ∃ x, x = ({ ((⟨a0_m, (⟨0, a0_m.Active, 0⟩ : RespS)⟩ : ChangeS) : ChangeS) with m := { ((⟨a0_m, (⟨0, a0_m.Active, 0⟩ : RespS)⟩ : ChangeS).m : MetaS) with Trials := (wrap64 (((⟨a0_m, (⟨0, a0_m.Active, 0⟩ : RespS)⟩ : ChangeS).m).Trials - 1)) } }) := ⟨_, rfl⟩
        have H := bnd_eq H hx16
        refine k_tok 0 (A' := At b4 0 (ChangeS.cells x15)) rfl (by rw [hx16]) ?_
        refine o_nil ?_
        refine q_then ?_
        refine s_seq ?_
        refine s_reg [0, 1, 2, 3, 4] rfl ?_
        refine o_ld (hG 3 rfl) rfl (ev_ldN (j := 0) rfl rfl Tryd.isAgg74 (sz (MetaS.len _) Tryd.sizeOf74) (sub_all _) rfl) (g0 rfl) rfl rfl ?_
        obtain ⟨r17, Hc18, H⟩ := bind_some' H
        refine oc (k_call (c_meta_Other a0_m r17 Hc18) Tryd.call36 rfl rfl rfl [] [] rfl rfl (g0 rfl) rfl rfl ?_)
        rintro _ _ _ ⟨rfl, rfl, rfl⟩
        dsimp only [app]
        refine o_pu rfl (ev_fieldAddr rfl rfl Tryd.runUnderlying109 rfl Tryd.sizeOf48 rfl rfl) (g0 rfl) rfl rfl ?_
        refine o_pu rfl (ev_fieldAddr rfl rfl Tryd.runUnderlying48 rfl Tryd.sizeOf3 rfl rfl) (g0 rfl) rfl rfl ?_
        refine oc (k_st (j := 108) rfl rfl rfl rfl (vs := [vi r17]) rfl (sz rfl Tryd.sizeOf3) rfl 0 rfl (spl_in (ChangeS.sub_r _) (RespS.set_N _ r17) (ChangeS.set_r _ _) rfl) rfl (g0 rfl) rfl ?_)
        refine o_nil ?_
        refine q_then ?_
        refine s_seq ?_
        refine s_reg [0, 1] rfl ?_
        refine o_ld (hG 0 rfl) rfl (ev_ldN (j := 0) rfl rfl Tryd.isAgg109 (sz (ChangeS.len _) Tryd.sizeOf109) (sub_all _) rfl) (g0 rfl) rfl rfl ?_
        refine oc (k_st (j := 0) rfl rfl rfl rfl (vs := ChangeS.cells ({ (x15 : ChangeS) with r := { (x15.r : RespS) with N := r17 } })) rfl (sz (ChangeS.len _) Tryd.sizeOf109) (ChangeS.sc _) 1 rfl (spl_all ((ChangeS.len _).trans (ChangeS.len _).symm)) rfl (g0 rfl) rfl ?_)
        refine o_nil ?_
        refine q_then ?_
        refine s_ret ?_
        cases H
        exact q_end (rs_1 Tryd.results80 (rv_cell (j := 0) rfl (hG 1 rfl) Tryd.isAgg109 (sz (ChangeS.len _) Tryd.sizeOf109) (sub_all _) rfl)) ⟨rfl, rfl, rfl⟩ [] rfl 0 rfl [] rfl 4 rfl
  · intro J7 H
    cases b5 with
    | true =>
      rw [cond_true] at H
      refine o_gnot rfl rfl rfl rfl rfl rfl rfl rfl ?_
      refine o_gnot rfl rfl rfl rfl rfl rfl rfl rfl ?_
      refine o_pu rfl (ev_pick_t rfl rfl rfl) (g0 rfl) rfl rfl ?_
      exact k_wk (J7 true H) [17, 0, 1, 2, 3, 4, 5, 6, 7, 8, 9, 10, 11, 12, 13, 14] [] 0 [0, 0, 0, 0] 0 rfl rfl rfl
    | false =>
      rw [cond_false] at H
      refine o_pu rfl (ev_fieldAddr rfl rfl Tryd.runUnderlying86 rfl Tryd.sizeOf4 rfl rfl) (g1 rfl rfl rfl rfl) rfl rfl ?_
      refine o_ld (hG 2 rfl) rfl (ev_ld1 (j := 34) rfl rfl Tryd.isAgg4 (FactS.sub_Worn _) rfl) (g1 rfl rfl rfl rfl) rfl rfl ?_
      refine o_pu rfl (ev_pick_f rfl rfl rfl) (g0 rfl) rfl rfl ?_
      exact k_wk (J7 a1_f.Worn H) [17, 0, 1, 2, 3, 4, 5, 6, 7, 8, 9, 10, 11, 12, 13, 14] [] 0 [0, 0, 0, 0] 0 rfl rfl rfl

def update_confirm (a0_m : MetaS) (a1_f : FactS) : Option ChangeS :=
(update_idle a0_m).bind fun r4 =>
(version_Confirm a0_m).bind fun r7 =>
(meta_Other a0_m).bind fun r9 =>
jn (fun (x12 : ChangeS) =>
some x12) fun J11 =>
bnd (a0_m.Phase != 3) fun b14 =>
bif b14 then (
(update_when (true : Bool) (11 : Int)).bind fun r16 =>
(update_when a1_f.Worn (5 : Int)).bind fun r18 =>
(update_one ({ ({ (r4 : MetaS) with Min := r7 } : MetaS) with Active := r9 }) ([r16, r18] : List Int)).bind fun r21 =>
J11 r21) else (
(update_when (a0_m.Trials == 2) (11 : Int)).bind fun r23 =>
(update_when a1_f.Worn (5 : Int)).bind fun r25 =>
(update_one ({ ({ (r4 : MetaS) with Min := r7 } : MetaS) with Active := r9 }) ([r23, r25] : List Int)).bind fun r28 =>
J11 r28)

theorem c_update_confirm (a0_m : MetaS) (a1_f : FactS) (r : ChangeS) (H : update_confirm a0_m a1_f = some r) : Fn Tryd.prog 81 [(.agg (MetaS.cells a0_m).toArray), (.agg (FactS.cells a1_f).toArray)] [] [] (fun v D' G' => v = (.agg (ChangeS.cells r).toArray) ∧ D' = [] ∧ G' = []) := by
  unfold update_confirm at H
  refine fn_of Tryd.func81 rfl Tryd.ntmps81 rfl ?_
  intro w0 D0 G0
  dsimp only [app, initEnv, Nat.zero_add, Nat.reduceAdd]
  refine s_seq ?_
  refine s_reg [0, 1, 2] rfl ?_
  refine oc (k_box rfl rfl rfl (cs := MetaS.cells a0_m) rfl (g0 rfl) rfl rfl ?_)
  intro b1
  refine oc (k_box rfl rfl rfl (cs := FactS.cells a1_f) rfl (g0 rfl) rfl rfl ?_)
  intro b2
  refine oc (k_alloc rfl rfl Tryd.zeroValue109 (cs := ChangeS.cells ChangeS.zero) rfl (g0 rfl) rfl rfl ?_)
  intro b3
  refine o_nil ?_
  refine q_then ?_
  refine s_seq ?_
  refine s_reg [0, 1, 2, 3] rfl ?_
  refine o_ld (hG 2 rfl) rfl (ev_ldN (j := 0) rfl rfl Tryd.isAgg74 (sz (MetaS.len _) Tryd.sizeOf74) (sub_all _) rfl) (g0 rfl) rfl rfl ?_
  obtain ⟨r4, Hc5, H⟩ := bind_some' H
  refine oc (k_call (c_update_idle a0_m r4 Hc5) Tryd.call112 rfl rfl rfl [] [] rfl rfl (g0 rfl) rfl rfl ?_)
  rintro _ _ _ ⟨rfl, rfl, rfl⟩
  dsimp only [app]
  refine oc (k_alloc rfl rfl Tryd.zeroValue74 (cs := MetaS.cells MetaS.zero) rfl (g0 rfl) rfl rfl ?_)
  intro b6
  refine oc (k_st (j := 0) rfl rfl rfl rfl (vs := MetaS.cells r4) rfl (sz (MetaS.len _) Tryd.sizeOf74) (MetaS.sc _) 0 rfl (spl_all ((MetaS.len _).trans (MetaS.len _).symm)) rfl (g0 rfl) rfl ?_)
  refine o_nil ?_
  refine q_then ?_
  refine s_seq ?_
  refine s_draw mixed [(0, [1, 5, 7], Has b1 0 (MetaS.cells a0_m)), (2, [3, 7], Has b1 0 (MetaS.cells a0_m))] ?_
  refine a_ld 0 0 rfl rfl (ev_ldN (j := 0) rfl rfl Tryd.isAgg74 (sz (MetaS.len _) Tryd.sizeOf74) (sub_all _) rfl) (by kernel_rfl) (by rfl) (by kernel_rfl) (by kernel_rfl) (by kernel_rfl) (by kernel_rfl) (fun _ _ _ h => h) (g0 rfl) rfl rfl ?_
  refine a_ld 2 1 rfl rfl (ev_ldN (j := 0) rfl rfl Tryd.isAgg74 (sz (MetaS.len _) Tryd.sizeOf74) (sub_all _) rfl) (by kernel_rfl) (by rfl) (by kernel_rfl) (by kernel_rfl) (by kernel_rfl) (by kernel_rfl) (fun _ _ _ h => h) (g0 rfl) rfl rfl ?_
  refine ac 1 (by kernel_rfl) (sl_cons (hG 3 rfl) (sl_cons (hG 3 rfl) sl_nil)) ?_
  obtain ⟨r7, Hc8, H⟩ := bind_some' H
  refine k_call (c_version_Confirm a0_m r7 Hc8) Tryd.call113 rfl rfl rfl [] [] rfl rfl (g0 rfl) rfl rfl ?_
  rintro _ _ _ ⟨rfl, rfl, rfl⟩
  dsimp only [app]
  refine a_pu 4 rfl (ev_fieldAddr rfl rfl Tryd.runUnderlying74 rfl Tryd.sizeOf3 rfl rfl) (by rfl) (by kernel_rfl) (by kernel_rfl) (by kernel_rfl) (fun _ _ _ h => h) (g0 rfl) rfl rfl ?_
  refine ac 3 (by kernel_rfl) (sl_end (by kernel_rfl) (sl_cons (hG 3 rfl) sl_nil)) ?_
  obtain ⟨r9, Hc10, H⟩ := bind_some' H
  refine k_call (c_meta_Other a0_m r9 Hc10) Tryd.call36 rfl rfl rfl [] [] rfl rfl (g0 rfl) rfl rfl ?_
  rintro _ _ _ ⟨rfl, rfl, rfl⟩
  dsimp only [app]
  refine ac 5 (by kernel_rfl) (sl_end (by kernel_rfl) (sl_end (by kernel_rfl) sl_nil)) ?_
  refine k_st (j := 69) rfl rfl rfl rfl (vs := [vi r7]) rfl (sz rfl Tryd.sizeOf3) rfl 0 rfl (MetaS.set_Min _ r7) rfl (g0 rfl) rfl ?_
  refine a_pu 6 rfl (ev_fieldAddr rfl rfl Tryd.runUnderlying74 rfl Tryd.sizeOf3 rfl rfl) (by rfl) (by kernel_rfl) (by kernel_rfl) (by kernel_rfl) (fun _ _ _ h => h) (g0 rfl) rfl rfl ?_
  refine ac 7 (by kernel_rfl) (sl_end (by kernel_rfl) (sl_end (by kernel_rfl) sl_nil)) ?_
  refine k_st (j := 0) rfl rfl rfl rfl (vs := [vi r9]) rfl (sz rfl Tryd.sizeOf3) rfl 0 rfl (MetaS.set_Active _ r9) rfl (g0 rfl) rfl ?_
  refine a_done (by kernel_rfl) (sl_end (by kernel_rfl) (sl_end (by kernel_rfl) sl_nil)) ?_
  refine q_then ?_
  refine s_seq ?_
  refine q_join (fun (x12 : ChangeS) (y13 : Unit) => ⟨D0, At b6 0 (MetaS.cells ({ ({ (r4 : MetaS) with Min := r7 } : MetaS) with Active := r9 })) :: At b3 0 (ChangeS.cells x12) :: At b2 0 (FactS.cells a1_f) :: At b1 0 (MetaS.cells a0_m) :: G0, [(4, (.pointer (some ⟨b3, 0, none⟩)))]⟩) H ?_ ?_
  · intro x12 y13 H
    dsimp only
    refine q_then ?_
    refine s_ret ?_
    cases H
    exact q_end (rs_1 Tryd.results81 (rv_cell (j := 0) rfl (hG 1 rfl) Tryd.isAgg109 (sz (ChangeS.len _) Tryd.sizeOf109) (sub_all _) rfl)) ⟨rfl, rfl, rfl⟩ [] rfl 0 rfl [] rfl 4 rfl
  · intro J11 H
    refine s_draw mixed [(0, [14, 15], Has b6 0 (MetaS.cells ({ ({ (r4 : MetaS) with Min := r7 } : MetaS) with Active := r9 }))), (2, [15], Has b1 0 (MetaS.cells a0_m)), (6, [15], Has b1 0 (MetaS.cells a0_m)), (11, [12, 15], Has b2 0 (FactS.cells a1_f))] ?_
    refine a_ld 0 0 rfl rfl (ev_ldN (j := 0) rfl rfl Tryd.isAgg74 (sz (MetaS.len _) Tryd.sizeOf74) (sub_all _) rfl) (by kernel_rfl) (by rfl) (by kernel_rfl) (by kernel_rfl) (by kernel_rfl) (by kernel_rfl) (fun _ _ _ h => h) (g0 rfl) rfl rfl ?_
    refine a_pu 1 rfl (ev_fieldAddr rfl rfl Tryd.runUnderlying74 rfl Tryd.sizeOf3 rfl rfl) (by rfl) (by kernel_rfl) (by kernel_rfl) (by kernel_rfl) (fun _ _ _ h => h) (g0 rfl) rfl rfl ?_
    refine a_ld 2 1 rfl rfl (ev_ld1 (j := 70) rfl rfl Tryd.isAgg3 (MetaS.sub_Phase _) rfl) (by kernel_rfl) (by rfl) (by kernel_rfl) (by kernel_rfl) (by kernel_rfl) (by kernel_rfl) (fun _ _ _ h => h) (g0 rfl) rfl rfl ?_
    refine a_pu 3 rfl (ev_bin rfl rfl rfl rfl (neq_i _ 3)) (by rfl) (by kernel_rfl) (by kernel_rfl) (by kernel_rfl) (fun _ _ _ h => h) (g0 rfl) rfl rfl ?_
    refine a_pu 4 rfl (ev_move rfl rfl) (by rfl) (by kernel_rfl) (by kernel_rfl) (by kernel_rfl) (fun _ _ _ h => h) (g0 rfl) rfl rfl ?_
    refine k_name 18 rfl ?_
    intro b14 hb15
    have H := bnd_eq H hb15
    cases b14 with
    | true =>
      rw [cond_true] at H
      refine a_not 5 rfl (by rfl) (by kernel_rfl) (by kernel_rfl) (by kernel_rfl) (fun _ _ _ h => h) rfl rfl rfl rfl rfl rfl rfl ?_
      refine a_not 6 rfl (by rfl) (by kernel_rfl) (by kernel_rfl) (by kernel_rfl) (fun _ _ _ h => h) rfl rfl rfl rfl rfl rfl rfl ?_
      refine a_not 7 rfl (by rfl) (by kernel_rfl) (by kernel_rfl) (by kernel_rfl) (fun _ _ _ h => h) rfl rfl rfl rfl rfl rfl rfl ?_
      refine a_pu 8 rfl (ev_pick_t rfl rfl rfl) (by rfl) (by kernel_rfl) (by kernel_rfl) (by kernel_rfl) (fun _ _ _ h => h) (g0 rfl) rfl rfl ?_
      refine a_pu 10 rfl (ev_fieldAddr rfl rfl Tryd.runUnderlying86 rfl Tryd.sizeOf4 rfl rfl) (by rfl) (by kernel_rfl) (by kernel_rfl) (by kernel_rfl) (fun _ _ _ h => h) (g0 rfl) rfl rfl ?_
      refine a_ld 11 3 rfl rfl (ev_ld1 (j := 34) rfl rfl Tryd.isAgg4 (FactS.sub_Worn _) rfl) (by kernel_rfl) (by rfl) (by kernel_rfl) (by kernel_rfl) (by kernel_rfl) (by kernel_rfl) (fun _ _ _ h => h) (g0 rfl) rfl rfl ?_
      refine ac 9 (by kernel_rfl) (sl_cons (hG 0 rfl) (sl_cons (hG 3 rfl) (sl_cons (hG 3 rfl) (sl_cons (hG 2 rfl) sl_nil)))) ?_
      obtain ⟨r16, Hc17, H⟩ := bind_some' H
      refine k_call (c_update_when true 11 r16 Hc17) Tryd.call108 rfl rfl rfl [] [] rfl rfl (g0 rfl) rfl rfl ?_
      rintro _ _ _ ⟨rfl, rfl, rfl⟩
      dsimp only [app]
      refine ac 12 (by kernel_rfl) (sl_cons (hG 0 rfl) (sl_cons (hG 3 rfl) (sl_cons (hG 3 rfl) (sl_cons (hG 2 rfl) sl_nil)))) ?_
      obtain ⟨r18, Hc19, H⟩ := bind_some' H
      refine k_call (c_update_when a1_f.Worn 5 r18 Hc19) Tryd.call108 rfl rfl rfl [] [] rfl rfl (g0 rfl) rfl rfl ?_
      rintro _ _ _ ⟨rfl, rfl, rfl⟩
      dsimp only [app]
      refine ac 13 (by kernel_rfl) (sl_cons (hG 0 rfl) (sl_cons (hG 3 rfl) (sl_cons (hG 3 rfl) (sl_end (by kernel_rfl) sl_nil)))) ?_
      refine k_buildSlice (f := Ei) ([r16, r18] : List Int) rfl rfl rfl rfl Tryd.runUnderlying176 Tryd.sizeOf24 Tryd.zeroValue24 rfl rfl (fill_all rfl rfl (by simp) rfl rfl) (g0 rfl) rfl rfl ?_
      intro b20
      refine ac 14 (by kernel_rfl) (sl_cons (hG 0 rfl) (sl_cons (hG 3 rfl) (sl_cons (hG 3 rfl) (sl_end (by kernel_rfl) sl_nil)))) ?_
      obtain ⟨r21, Hc22, H⟩ := bind_some' H
      refine k_call (c_update_one ({ ({ (r4 : MetaS) with Min := r7 } : MetaS) with Active := r9 }) ([r16, r18] : List Int) (some ⟨b20, 0, none⟩) 2 r21 Hc22) Tryd.call107 rfl rfl rfl [0] [] rfl rfl (g0 rfl) rfl rfl ?_
      rintro _ _ _ ⟨rfl, rfl, rfl⟩
      dsimp only [app]
      refine ac 15 (by kernel_rfl) (sl_end (by kernel_rfl) (sl_cons (hG 3 rfl) (sl_cons (hG 3 rfl) (sl_end (by kernel_rfl) sl_nil)))) ?_
      refine k_st (j := 0) rfl rfl rfl rfl (vs := ChangeS.cells r21) rfl (sz (ChangeS.len _) Tryd.sizeOf109) (ChangeS.sc _) 1 rfl (spl_all ((ChangeS.len _).trans (ChangeS.len _).symm)) rfl (g0 rfl) rfl ?_
      refine a_done (by kernel_rfl) (sl_end (by kernel_rfl) (sl_end (by kernel_rfl) (sl_end (by kernel_rfl) (sl_end (by kernel_rfl) sl_nil)))) ?_
      exact k_wk (J11 r21 () H) [4] [] 1 [0, 0, 0, 0] 0 rfl rfl rfl
    | false =>
      rw [cond_false] at H
      refine a_pu 5 rfl (ev_fieldAddr rfl rfl Tryd.runUnderlying74 rfl Tryd.sizeOf3 rfl rfl) (by rfl) (by kernel_rfl) (by kernel_rfl) (by kernel_rfl) (fun _ _ _ h => h) (g1 rfl rfl rfl rfl) rfl rfl ?_
      refine a_ld 6 2 rfl rfl (ev_ld1 (j := 106) rfl rfl Tryd.isAgg3 (MetaS.sub_Trials _) rfl) (by kernel_rfl) (by rfl) (by kernel_rfl) (by kernel_rfl) (by kernel_rfl) (by kernel_rfl) (fun _ _ _ h => h) (g1 rfl rfl rfl rfl) rfl rfl ?_
      refine a_pu 7 rfl (ev_bin rfl rfl rfl rfl (eql_i _ 2)) (by rfl) (by kernel_rfl) (by kernel_rfl) (by kernel_rfl) (fun _ _ _ h => h) (g1 rfl rfl rfl rfl) rfl rfl ?_
      refine a_pu 8 rfl (ev_pick_f rfl rfl rfl) (by rfl) (by kernel_rfl) (by kernel_rfl) (by kernel_rfl) (fun _ _ _ h => h) (g0 rfl) rfl rfl ?_
      refine a_pu 10 rfl (ev_fieldAddr rfl rfl Tryd.runUnderlying86 rfl Tryd.sizeOf4 rfl rfl) (by rfl) (by kernel_rfl) (by kernel_rfl) (by kernel_rfl) (fun _ _ _ h => h) (g0 rfl) rfl rfl ?_
      refine a_ld 11 3 rfl rfl (ev_ld1 (j := 34) rfl rfl Tryd.isAgg4 (FactS.sub_Worn _) rfl) (by kernel_rfl) (by rfl) (by kernel_rfl) (by kernel_rfl) (by kernel_rfl) (by kernel_rfl) (fun _ _ _ h => h) (g0 rfl) rfl rfl ?_
      refine ac 9 (by kernel_rfl) (sl_cons (hG 0 rfl) (sl_cons (hG 3 rfl) (sl_cons (hG 3 rfl) (sl_cons (hG 2 rfl) sl_nil)))) ?_
      obtain ⟨r23, Hc24, H⟩ := bind_some' H
      refine k_call (c_update_when (a0_m.Trials == 2) 11 r23 Hc24) Tryd.call108 rfl rfl rfl [] [] rfl rfl (g0 rfl) rfl rfl ?_
      rintro _ _ _ ⟨rfl, rfl, rfl⟩
      dsimp only [app]
      refine ac 12 (by kernel_rfl) (sl_cons (hG 0 rfl) (sl_cons (hG 3 rfl) (sl_cons (hG 3 rfl) (sl_cons (hG 2 rfl) sl_nil)))) ?_
      obtain ⟨r25, Hc26, H⟩ := bind_some' H
      refine k_call (c_update_when a1_f.Worn 5 r25 Hc26) Tryd.call108 rfl rfl rfl [] [] rfl rfl (g0 rfl) rfl rfl ?_
      rintro _ _ _ ⟨rfl, rfl, rfl⟩
      dsimp only [app]
      refine ac 13 (by kernel_rfl) (sl_cons (hG 0 rfl) (sl_cons (hG 3 rfl) (sl_cons (hG 3 rfl) (sl_end (by kernel_rfl) sl_nil)))) ?_
      refine k_buildSlice (f := Ei) ([r23, r25] : List Int) rfl rfl rfl rfl Tryd.runUnderlying176 Tryd.sizeOf24 Tryd.zeroValue24 rfl rfl (fill_all rfl rfl (by simp) rfl rfl) (g0 rfl) rfl rfl ?_
      intro b27
      refine ac 14 (by kernel_rfl) (sl_cons (hG 0 rfl) (sl_cons (hG 3 rfl) (sl_cons (hG 3 rfl) (sl_end (by kernel_rfl) sl_nil)))) ?_
      obtain ⟨r28, Hc29, H⟩ := bind_some' H
      refine k_call (c_update_one ({ ({ (r4 : MetaS) with Min := r7 } : MetaS) with Active := r9 }) ([r23, r25] : List Int) (some ⟨b27, 0, none⟩) 2 r28 Hc29) Tryd.call107 rfl rfl rfl [0] [] rfl rfl (g0 rfl) rfl rfl ?_
      rintro _ _ _ ⟨rfl, rfl, rfl⟩
      dsimp only [app]
      refine ac 15 (by kernel_rfl) (sl_end (by kernel_rfl) (sl_cons (hG 3 rfl) (sl_cons (hG 3 rfl) (sl_end (by kernel_rfl) sl_nil)))) ?_
      refine k_st (j := 0) rfl rfl rfl rfl (vs := ChangeS.cells r28) rfl (sz (ChangeS.len _) Tryd.sizeOf109) (ChangeS.sc _) 1 rfl (spl_all ((ChangeS.len _).trans (ChangeS.len _).symm)) rfl (g0 rfl) rfl ?_
      refine a_done (by kernel_rfl) (sl_end (by kernel_rfl) (sl_end (by kernel_rfl) (sl_end (by kernel_rfl) (sl_end (by kernel_rfl) sl_nil)))) ?_
      exact k_wk (J11 r28 () H) [4] [] 1 [0, 0, 0, 0] 0 rfl rfl rfl

def update_abort (a0_m : MetaS) (a1_f : FactS) : Option ChangeS :=
jn (fun (x5 : ChangeS) =>
some x5) fun J4 =>
(update_idle a0_m).bind fun r7 =>
bnd (a0_m.Phase == 0) fun b9 =>
bif b9 then (
(update_when (true : Bool) (11 : Int)).bind fun r11 =>
(update_when a1_f.Worn (5 : Int)).bind fun r13 =>
(update_one r7 ([r11, r13] : List Int)).bind fun r16 =>
J4 r16) else (
(update_when (a0_m.Phase == 3) (11 : Int)).bind fun r18 =>
(update_when a1_f.Worn (5 : Int)).bind fun r20 =>
(update_one r7 ([r18, r20] : List Int)).bind fun r23 =>
J4 r23)

theorem c_update_abort (a0_m : MetaS) (a1_f : FactS) (r : ChangeS) (H : update_abort a0_m a1_f = some r) : Fn Tryd.prog 83 [(.agg (MetaS.cells a0_m).toArray), (.agg (FactS.cells a1_f).toArray)] [] [] (fun v D' G' => v = (.agg (ChangeS.cells r).toArray) ∧ D' = [] ∧ G' = []) := by
  unfold update_abort at H
  refine fn_of Tryd.func83 rfl Tryd.ntmps83 rfl ?_
  intro w0 D0 G0
  dsimp only [app, initEnv, Nat.zero_add, Nat.reduceAdd]
  refine s_seq ?_
  refine s_reg [0, 1, 2] rfl ?_
  refine oc (k_box rfl rfl rfl (cs := MetaS.cells a0_m) rfl (g0 rfl) rfl rfl ?_)
  intro b1
  refine oc (k_box rfl rfl rfl (cs := FactS.cells a1_f) rfl (g0 rfl) rfl rfl ?_)
  intro b2
  refine oc (k_alloc rfl rfl Tryd.zeroValue109 (cs := ChangeS.cells ChangeS.zero) rfl (g0 rfl) rfl rfl ?_)
  intro b3
  refine o_nil ?_
  refine q_then ?_
  refine s_seq ?_
  refine q_join (fun (x5 : ChangeS) (y6 : Unit) => ⟨D0, At b3 0 (ChangeS.cells x5) :: At b2 0 (FactS.cells a1_f) :: At b1 0 (MetaS.cells a0_m) :: G0, [(4, (.pointer (some ⟨b3, 0, none⟩)))]⟩) H ?_ ?_
  · intro x5 y6 H
    dsimp only
    refine q_then ?_
    refine s_ret ?_
    cases H
    exact q_end (rs_1 Tryd.results83 (rv_cell (j := 0) rfl (hG 0 rfl) Tryd.isAgg109 (sz (ChangeS.len _) Tryd.sizeOf109) (sub_all _) rfl)) ⟨rfl, rfl, rfl⟩ [] rfl 0 rfl [] rfl 3 rfl
  · intro J4 H
    refine s_draw mixed [(0, [1, 16], Has b1 0 (MetaS.cells a0_m)), (3, [16], Has b1 0 (MetaS.cells a0_m)), (7, [16], Has b1 0 (MetaS.cells a0_m)), (12, [13, 16], Has b2 0 (FactS.cells a1_f))] ?_
    refine a_ld 0 0 rfl rfl (ev_ldN (j := 0) rfl rfl Tryd.isAgg74 (sz (MetaS.len _) Tryd.sizeOf74) (sub_all _) rfl) (by kernel_rfl) (by rfl) (by kernel_rfl) (by kernel_rfl) (by kernel_rfl) (by kernel_rfl) (fun _ _ _ h => h) (g0 rfl) rfl rfl ?_
    refine a_pu 2 rfl (ev_fieldAddr rfl rfl Tryd.runUnderlying74 rfl Tryd.sizeOf3 rfl rfl) (by rfl) (by kernel_rfl) (by kernel_rfl) (by kernel_rfl) (fun _ _ _ h => h) (g0 rfl) rfl rfl ?_
    refine a_ld 3 1 rfl rfl (ev_ld1 (j := 70) rfl rfl Tryd.isAgg3 (MetaS.sub_Phase _) rfl) (by kernel_rfl) (by rfl) (by kernel_rfl) (by kernel_rfl) (by kernel_rfl) (by kernel_rfl) (fun _ _ _ h => h) (g0 rfl) rfl rfl ?_
    refine a_pu 4 rfl (ev_bin rfl rfl rfl rfl (eql_i _ 0)) (by rfl) (by kernel_rfl) (by kernel_rfl) (by kernel_rfl) (fun _ _ _ h => h) (g0 rfl) rfl rfl ?_
    refine a_pu 11 rfl (ev_fieldAddr rfl rfl Tryd.runUnderlying86 rfl Tryd.sizeOf4 rfl rfl) (by rfl) (by kernel_rfl) (by kernel_rfl) (by kernel_rfl) (fun _ _ _ h => h) (g0 rfl) rfl rfl ?_
    refine a_ld 12 3 rfl rfl (ev_ld1 (j := 34) rfl rfl Tryd.isAgg4 (FactS.sub_Worn _) rfl) (by kernel_rfl) (by rfl) (by kernel_rfl) (by kernel_rfl) (by kernel_rfl) (by kernel_rfl) (fun _ _ _ h => h) (g0 rfl) rfl rfl ?_
    refine ac 1 (by kernel_rfl) (sl_cons (hG 2 rfl) (sl_cons (hG 2 rfl) (sl_cons (hG 2 rfl) (sl_cons (hG 1 rfl) sl_nil)))) ?_
    obtain ⟨r7, Hc8, H⟩ := bind_some' H
    refine k_call (c_update_idle a0_m r7 Hc8) Tryd.call112 rfl rfl rfl [] [] rfl rfl (g0 rfl) rfl rfl ?_
    rintro _ _ _ ⟨rfl, rfl, rfl⟩
    dsimp only [app]
    refine a_pu 5 rfl (ev_move rfl rfl) (by rfl) (by kernel_rfl) (by kernel_rfl) (by kernel_rfl) (fun _ _ _ h => h) (g0 rfl) rfl rfl ?_
    refine k_name 10 rfl ?_
    intro b9 hb10
    have H := bnd_eq H hb10
    cases b9 with
    | true =>
      rw [cond_true] at H
      refine a_not 6 rfl (by rfl) (by kernel_rfl) (by kernel_rfl) (by kernel_rfl) (fun _ _ _ h => h) rfl rfl rfl rfl rfl rfl rfl ?_
      refine a_not 7 rfl (by rfl) (by kernel_rfl) (by kernel_rfl) (by kernel_rfl) (fun _ _ _ h => h) rfl rfl rfl rfl rfl rfl rfl ?_
      refine a_not 8 rfl (by rfl) (by kernel_rfl) (by kernel_rfl) (by kernel_rfl) (fun _ _ _ h => h) rfl rfl rfl rfl rfl rfl rfl ?_
      refine a_pu 9 rfl (ev_pick_t rfl rfl rfl) (by rfl) (by kernel_rfl) (by kernel_rfl) (by kernel_rfl) (fun _ _ _ h => h) (g0 rfl) rfl rfl ?_
      refine ac 10 (by kernel_rfl) (sl_end (by kernel_rfl) (sl_cons (hG 2 rfl) (sl_cons (hG 2 rfl) (sl_cons (hG 1 rfl) sl_nil)))) ?_
      obtain ⟨r11, Hc12, H⟩ := bind_some' H
      refine k_call (c_update_when true 11 r11 Hc12) Tryd.call108 rfl rfl rfl [] [] rfl rfl (g0 rfl) rfl rfl ?_
      rintro _ _ _ ⟨rfl, rfl, rfl⟩
      dsimp only [app]
      refine ac 13 (by kernel_rfl) (sl_end (by kernel_rfl) (sl_cons (hG 2 rfl) (sl_cons (hG 2 rfl) (sl_cons (hG 1 rfl) sl_nil)))) ?_
      obtain ⟨r13, Hc14, H⟩ := bind_some' H
      refine k_call (c_update_when a1_f.Worn 5 r13 Hc14) Tryd.call108 rfl rfl rfl [] [] rfl rfl (g0 rfl) rfl rfl ?_
      rintro _ _ _ ⟨rfl, rfl, rfl⟩
      dsimp only [app]
      refine ac 14 (by kernel_rfl) (sl_end (by kernel_rfl) (sl_cons (hG 2 rfl) (sl_cons (hG 2 rfl) (sl_end (by kernel_rfl) sl_nil)))) ?_
      refine k_buildSlice (f := Ei) ([r11, r13] : List Int) rfl rfl rfl rfl Tryd.runUnderlying176 Tryd.sizeOf24 Tryd.zeroValue24 rfl rfl (fill_all rfl rfl (by simp) rfl rfl) (g0 rfl) rfl rfl ?_
      intro b15
      refine ac 15 (by kernel_rfl) (sl_end (by kernel_rfl) (sl_cons (hG 2 rfl) (sl_cons (hG 2 rfl) (sl_end (by kernel_rfl) sl_nil)))) ?_
      obtain ⟨r16, Hc17, H⟩ := bind_some' H
      refine k_call (c_update_one r7 ([r11, r13] : List Int) (some ⟨b15, 0, none⟩) 2 r16 Hc17) Tryd.call107 rfl rfl rfl [0] [] rfl rfl (g0 rfl) rfl rfl ?_
      rintro _ _ _ ⟨rfl, rfl, rfl⟩
      dsimp only [app]
      refine ac 16 (by kernel_rfl) (sl_end (by kernel_rfl) (sl_cons (hG 2 rfl) (sl_cons (hG 2 rfl) (sl_end (by kernel_rfl) sl_nil)))) ?_
      refine k_st (j := 0) rfl rfl rfl rfl (vs := ChangeS.cells r16) rfl (sz (ChangeS.len _) Tryd.sizeOf109) (ChangeS.sc _) 0 rfl (spl_all ((ChangeS.len _).trans (ChangeS.len _).symm)) rfl (g0 rfl) rfl ?_
      refine a_done (by kernel_rfl) (sl_end (by kernel_rfl) (sl_end (by kernel_rfl) (sl_end (by kernel_rfl) (sl_end (by kernel_rfl) sl_nil)))) ?_
      exact k_wk (J4 r16 () H) [4] [] 1 [0, 0, 0] 0 rfl rfl rfl
    | false =>
      rw [cond_false] at H
      refine a_pu 6 rfl (ev_fieldAddr rfl rfl Tryd.runUnderlying74 rfl Tryd.sizeOf3 rfl rfl) (by rfl) (by kernel_rfl) (by kernel_rfl) (by kernel_rfl) (fun _ _ _ h => h) (g1 rfl rfl rfl rfl) rfl rfl ?_
      refine a_ld 7 2 rfl rfl (ev_ld1 (j := 70) rfl rfl Tryd.isAgg3 (MetaS.sub_Phase _) rfl) (by kernel_rfl) (by rfl) (by kernel_rfl) (by kernel_rfl) (by kernel_rfl) (by kernel_rfl) (fun _ _ _ h => h) (g1 rfl rfl rfl rfl) rfl rfl ?_
      refine a_pu 8 rfl (ev_bin rfl rfl rfl rfl (eql_i _ 3)) (by rfl) (by kernel_rfl) (by kernel_rfl) (by kernel_rfl) (fun _ _ _ h => h) (g1 rfl rfl rfl rfl) rfl rfl ?_
      refine a_pu 9 rfl (ev_pick_f rfl rfl rfl) (by rfl) (by kernel_rfl) (by kernel_rfl) (by kernel_rfl) (fun _ _ _ h => h) (g0 rfl) rfl rfl ?_
      refine ac 10 (by kernel_rfl) (sl_end (by kernel_rfl) (sl_cons (hG 2 rfl) (sl_cons (hG 2 rfl) (sl_cons (hG 1 rfl) sl_nil)))) ?_
      obtain ⟨r18, Hc19, H⟩ := bind_some' H
      refine k_call (c_update_when (a0_m.Phase == 3) 11 r18 Hc19) Tryd.call108 rfl rfl rfl [] [] rfl rfl (g0 rfl) rfl rfl ?_
      rintro _ _ _ ⟨rfl, rfl, rfl⟩
      dsimp only [app]
      refine ac 13 (by kernel_rfl) (sl_end (by kernel_rfl) (sl_cons (hG 2 rfl) (sl_cons (hG 2 rfl) (sl_cons (hG 1 rfl) sl_nil)))) ?_
      obtain ⟨r20, Hc21, H⟩ := bind_some' H
      refine k_call (c_update_when a1_f.Worn 5 r20 Hc21) Tryd.call108 rfl rfl rfl [] [] rfl rfl (g0 rfl) rfl rfl ?_
      rintro _ _ _ ⟨rfl, rfl, rfl⟩
      dsimp only [app]
      refine ac 14 (by kernel_rfl) (sl_end (by kernel_rfl) (sl_cons (hG 2 rfl) (sl_cons (hG 2 rfl) (sl_end (by kernel_rfl) sl_nil)))) ?_
      refine k_buildSlice (f := Ei) ([r18, r20] : List Int) rfl rfl rfl rfl Tryd.runUnderlying176 Tryd.sizeOf24 Tryd.zeroValue24 rfl rfl (fill_all rfl rfl (by simp) rfl rfl) (g0 rfl) rfl rfl ?_
      intro b22
      refine ac 15 (by kernel_rfl) (sl_end (by kernel_rfl) (sl_cons (hG 2 rfl) (sl_cons (hG 2 rfl) (sl_end (by kernel_rfl) sl_nil)))) ?_
      obtain ⟨r23, Hc24, H⟩ := bind_some' H
      refine k_call (c_update_one r7 ([r18, r20] : List Int) (some ⟨b22, 0, none⟩) 2 r23 Hc24) Tryd.call107 rfl rfl rfl [0] [] rfl rfl (g0 rfl) rfl rfl ?_
      rintro _ _ _ ⟨rfl, rfl, rfl⟩
      dsimp only [app]
      refine ac 16 (by kernel_rfl) (sl_end (by kernel_rfl) (sl_cons (hG 2 rfl) (sl_cons (hG 2 rfl) (sl_end (by kernel_rfl) sl_nil)))) ?_
      refine k_st (j := 0) rfl rfl rfl rfl (vs := ChangeS.cells r23) rfl (sz (ChangeS.len _) Tryd.sizeOf109) (ChangeS.sc _) 0 rfl (spl_all ((ChangeS.len _).trans (ChangeS.len _).symm)) rfl (g0 rfl) rfl ?_
      refine a_done (by kernel_rfl) (sl_end (by kernel_rfl) (sl_end (by kernel_rfl) (sl_end (by kernel_rfl) (sl_end (by kernel_rfl) sl_nil)))) ?_
      exact k_wk (J4 r23 () H) [4] [] 1 [0, 0, 0] 0 rfl rfl rfl

def field_Reader_Raw (a0_r : ReaderS) (a1_size : Int) : Option ((List UInt8) × ReaderS) :=
(field_Reader_take (⟨a0_r.b, a0_r.bad⟩ : ReaderS) (if 0 < (if 1000 < a1_size then 1000 else a1_size) then (if 1000 < a1_size then 1000 else a1_size) else 0)).bind fun r3 =>
(slices_Clone r3.1).bind fun r9 =>
some (r9, (⟨r3.2.b, r3.2.bad⟩ : ReaderS))

theorem c_field_Reader_Raw (a0_rp : Nat) (a0_r : ReaderS) (A1 : Option Addr) (c2 : Nat) (a1_size : Int) (r : (List UInt8) × ReaderS) (H : field_Reader_Raw a0_r a1_size = some r) : Fn Tryd.prog 86 [(.pointer (some ⟨a0_rp, 0, none⟩)), (vi a1_size)] [Sl E8 A1 c2 a0_r.b] [At a0_rp 0 [.slice A1 a0_r.b.length c2, vb a0_r.bad]] (fun v D' G' => ∃ (A13 : Option Addr) (c14 : Nat) (A15 : Option Addr) (c16 : Nat), v = (.slice A13 r.1.length c14) ∧ D' = [Sl E8 A15 c16 r.2.b, Sl E8 A13 c14 r.1] ∧ G' = [Spare A13 r.1.length c14 1, At a0_rp 0 [.slice A15 r.2.b.length c16, vb r.2.bad]]) := by
  unfold field_Reader_Raw at H
  refine fn_of Tryd.func86 rfl Tryd.ntmps86 rfl ?_
  intro w0 D0 G0
  dsimp only [app, initEnv, Nat.zero_add, Nat.reduceAdd]
  refine s_seq ?_
  refine s_reg [0] rfl ?_
  refine o_pu rfl (ev_assign rfl rfl) (g0 rfl) rfl rfl ?_
  refine o_nil ?_
  refine q_then ?_
  refine s_seq ?_
  refine s_reg [0, 1, 2, 3, 4, 5, 6] rfl ?_
  refine o_pu rfl (ev_move rfl rfl) (g0 rfl) rfl rfl ?_
  refine o_pu rfl (ev_move rfl rfl) (g0 rfl) rfl rfl ?_
  refine o_pu rfl (ev_min rfl rfl rfl) (g0 rfl) rfl rfl ?_
  refine o_pu rfl (ev_max rfl rfl rfl) (g0 rfl) rfl rfl ?_
  obtain ⟨r3, Hc4, H⟩ := bind_some' H
  refine oc (k_call (c_field_Reader_take a0_rp (⟨a0_r.b, a0_r.bad⟩ : ReaderS) A1 c2 (if 0 < (if 1000 < a1_size then 1000 else a1_size) then (if 1000 < a1_size then 1000 else a1_size) else 0) r3 Hc4) Tryd.call114 rfl rfl rfl [0] [0] rfl rfl (g0 rfl) rfl rfl ?_)
  rintro _ _ _ ⟨A5, c6, A7, c8, rfl, rfl, rfl⟩
  dsimp only [app]
  obtain ⟨r9, Hc10, H⟩ := bind_some' H
  refine oc (k_call (c_slices_Clone r3.1 A5 c6 r9 Hc10) Tryd.call30 rfl rfl rfl [1] [] rfl rfl (g0 rfl) rfl rfl ?_)
  rintro _ _ _ ⟨A11, c12, rfl, rfl, rfl⟩
  dsimp only [app]
  refine o_pu rfl (ev_assign rfl rfl) (g0 rfl) rfl rfl ?_
  refine o_nil ?_
  refine q_then ?_
  refine s_ret ?_
  cases H
  exact q_end (rs_1 Tryd.results86 (rv_tmp rfl)) ⟨A11, c12, A7, c8, rfl, rfl, rfl⟩ [1, 0] rfl 4 rfl [0, 0] rfl 0 rfl

def strings_TrimRight (a0_s : List UInt8) : Option (List UInt8) :=
bnd (a0_s == ([] : List UInt8)) fun b1 =>
jn (fun x4 =>
bif x4 then (
some a0_s) else (
chk (0 ≤ (0 : Int) ∧ (0 : Int) < ([0] : List UInt8).length) <|
chk (0 ≤ (0 : Int) ∧ (0 : Int) < ([0] : List UInt8).length) <|
(strings_trimRightByte a0_s (0 : UInt8)).bind fun r8 =>
some r8)) fun J3 =>
bif b1 then (
J3 true) else
J3 false

theorem c_strings_TrimRight (a0_s : List UInt8) (r : (List UInt8)) (H : strings_TrimRight a0_s = some r) : Fn Tryd.prog 87 [(vs a0_s), (vs ([0] : List UInt8))] [] [] (fun v D' G' => v = (vs r) ∧ D' = [] ∧ G' = []) := by
  unfold strings_TrimRight at H
  refine fn_of Tryd.func87 rfl Tryd.ntmps87 rfl ?_
  intro w0 D0 G0
  dsimp only [app, initEnv, Nat.zero_add, Nat.reduceAdd]
  refine s_seq ?_
  refine s_reg [0] rfl ?_
  refine o_pu rfl (ev_assign rfl rfl) (g0 rfl) rfl rfl ?_
  refine o_nil ?_
  refine q_then ?_
  refine s_seq ?_
  refine s_seq ?_
  refine s_reg [0, 1, 2, 3, 4, 5] rfl ?_
  refine o_pu rfl (ev_move rfl rfl) (g0 rfl) rfl rfl ?_
  refine o_pu rfl (ev_bin rfl rfl (show _ = some (vs ([] : List UInt8)) from rfl) rfl (eql_s _ ([] : List UInt8))) (g0 rfl) rfl rfl ?_
  refine o_pu rfl (ev_move rfl rfl) (g0 rfl) rfl rfl ?_
  refine k_name 9 rfl ?_
  intro b1 hb2
  have H := bnd_eq H hb2
  refine o_jb 12 [] [0, 1, 4, 7, 8, 9] H rfl ?_ ?_
  · intro x4 H
    refine o_nil ?_
    refine q_then ?_
    refine s_cond rfl ?_ ?_
    · intro hb5
      have H := cnd_t H hb5
      refine s_seq ?_
      refine s_reg [0, 1] rfl ?_
      refine o_pu rfl (ev_move rfl rfl) (g0 rfl) rfl rfl ?_
      refine o_pu rfl (ev_assign rfl rfl) (g0 rfl) rfl rfl ?_
      refine o_nil ?_
      refine q_then ?_
      refine s_ret ?_
      refine q_then_r ?_
      cases H
      exact q_end (rs_1 Tryd.results87 (rv_tmp rfl)) ⟨rfl, rfl, rfl⟩ [] rfl 0 rfl [] rfl 0 rfl
    · intro hb5
      have H := cnd_f H hb5
      refine s_skip ?_
      refine q_then ?_
      refine s_seq ?_
      refine s_seq ?_
      refine s_reg [0, 1, 2, 3, 4, 5, 6, 7] rfl ?_
      refine o_pu rfl (ev_move rfl rfl) (g0 rfl) rfl rfl ?_
      refine o_pu (v := (vi 1)) rfl (ev_len_string rfl (show _ = some (vs ([0] : List UInt8)) from rfl) Tryd.runUnderlying9) (g0 rfl) rfl rfl ?_
      refine o_pu (v := (vb true)) rfl (ev_bin rfl rfl rfl rfl (eql_i 1 1)) (g0 rfl) rfl rfl ?_
      refine o_pu rfl (ev_move rfl rfl) (g0 rfl) rfl rfl ?_
      refine o_pu rfl (ev_move rfl rfl) (g1 rfl rfl rfl rfl) rfl rfl ?_
      obtain ⟨hk6, H⟩ := chk_some H
      refine o_pu (v := (v8 0)) rfl (ev_index_string rfl (show _ = some (vs ([0] : List UInt8)) from rfl) rfl Tryd.runUnderlying9 hk6) (g1 rfl rfl rfl rfl) rfl rfl ?_
      refine o_pu (v := (vb true)) rfl (ev_bin rfl rfl rfl rfl (lss_8 0 128)) (g1 rfl rfl rfl rfl) rfl rfl ?_
      refine o_pu rfl (ev_pick_t rfl rfl rfl) (g0 rfl) rfl rfl ?_
      refine o_nil ?_
      refine q_then ?_
      refine s_cond_t rfl ?_
      refine s_seq ?_
      refine s_reg [0, 1, 2, 3, 4] rfl ?_
      refine o_pu rfl (ev_move rfl rfl) (g0 rfl) rfl rfl ?_
      refine o_pu rfl (ev_move rfl rfl) (g0 rfl) rfl rfl ?_
      obtain ⟨hk7, H⟩ := chk_some H
      refine o_pu (v := (v8 0)) rfl (ev_index_string rfl (show _ = some (vs ([0] : List UInt8)) from rfl) rfl Tryd.runUnderlying9 hk7) (g0 rfl) rfl rfl ?_
      obtain ⟨r8, Hc9, H⟩ := bind_some' H
      refine oc (k_call (c_strings_trimRightByte a0_s 0 r8 Hc9) Tryd.call115 rfl rfl rfl [] [] rfl rfl (g0 rfl) rfl rfl ?_)
      rintro _ _ _ ⟨rfl, rfl, rfl⟩
      dsimp only [app]
      refine o_pu rfl (ev_assign rfl rfl) (g0 rfl) rfl rfl ?_
      refine o_nil ?_
      refine q_then ?_
      refine s_ret ?_
      refine q_then_r ?_
      cases H
      exact q_end (rs_1 Tryd.results87 (rv_tmp rfl)) ⟨rfl, rfl, rfl⟩ [] rfl 0 rfl [] rfl 0 rfl
  · intro J3 H
    cases b1 with
    | true =>
      rw [cond_true] at H
      refine o_gnot rfl rfl rfl rfl rfl rfl rfl rfl ?_
      refine o_gnot rfl rfl rfl rfl rfl rfl rfl rfl ?_
      refine o_pu rfl (ev_pick_t rfl rfl rfl) (g0 rfl) rfl rfl ?_
      exact k_wk (J3 true H) [12, 0, 1, 4, 7, 8, 9] [] 0 [] 0 rfl rfl rfl
    | false =>
      rw [cond_false] at H
      refine o_pu rfl (ev_move rfl rfl) (g1 rfl rfl rfl rfl) rfl rfl ?_
      refine o_pu (v := (vb false)) rfl (ev_bin rfl (show _ = some (vs ([0] : List UInt8)) from rfl) (show _ = some (vs ([] : List UInt8)) from rfl) rfl (eql_s ([0] : List UInt8) ([] : List UInt8))) (g1 rfl rfl rfl rfl) rfl rfl ?_
      refine o_pu rfl (ev_pick_f rfl rfl rfl) (g0 rfl) rfl rfl ?_
      exact k_wk (J3 false H) [12, 0, 1, 4, 7, 8, 9] [] 0 [] 0 rfl rfl rfl

def field_Reader_Num_l0 (r3 : (List UInt8) × ReaderS) (J9 : UInt64 → Option (Int × ReaderS)) : Nat → (UInt64 × Int) → Option (Int × ReaderS)
  | 0, _ => none
  | k12 + 1, s12 =>
    bif (decide (s12.2 < (r3.1.length : Int))) then (
    chk (0 ≤ s12.2 ∧ s12.2 < r3.1.length) <|
    field_Reader_Num_l0 r3 J9 k12 (((shl64 (s12.1 : UInt64) (8 : UInt64).toNat) ||| (at' 0 r3.1 s12.2).toUInt64), (wrap64 (s12.2 + 1)))) else (
    J9 s12.1)

def field_Reader_Num (a0_r : ReaderS) (a1_size : Int) : Option (Int × ReaderS) :=
(field_Reader_take (⟨a0_r.b, a0_r.bad⟩ : ReaderS) (if 0 < (if 8 < a1_size then 8 else a1_size) then (if 8 < a1_size then 8 else a1_size) else 0)).bind fun r3 =>
jn (fun (x10 : UInt64) =>
some ((wrap64 (x10.toNat : Int)), (⟨r3.2.b, r3.2.bad⟩ : ReaderS))) fun J9 =>
field_Reader_Num_l0 r3 J9 Fuel (0, 0)

theorem c_field_Reader_Num (a0_rp : Nat) (a0_r : ReaderS) (A1 : Option Addr) (c2 : Nat) (a1_size : Int) (r : Int × ReaderS) (H : field_Reader_Num a0_r a1_size = some r) : Fn Tryd.prog 88 [(.pointer (some ⟨a0_rp, 0, none⟩)), (vi a1_size)] [Sl E8 A1 c2 a0_r.b] [At a0_rp 0 [.slice A1 a0_r.b.length c2, vb a0_r.bad]] (fun v D' G' => ∃ (A17 : Option Addr) (c18 : Nat), v = (vi r.1) ∧ D' = [Sl E8 A17 c18 r.2.b] ∧ G' = [At a0_rp 0 [.slice A17 r.2.b.length c18, vb r.2.bad]]) := by
  unfold field_Reader_Num at H
  refine fn_of Tryd.func88 rfl Tryd.ntmps88 rfl ?_
  intro w0 D0 G0
  dsimp only [app, initEnv, Nat.zero_add, Nat.reduceAdd]
  refine s_seq ?_
  refine s_reg [0] rfl ?_
  refine o_pu rfl (ev_assign rfl rfl) (g0 rfl) rfl rfl ?_
  refine o_nil ?_
  refine q_then ?_
  refine s_seq ?_
  refine s_reg [0] rfl ?_
  refine o_pu rfl (ev_assign rfl rfl) (g0 rfl) rfl rfl ?_
  refine o_nil ?_
  refine q_then ?_
  refine s_seq ?_
  refine s_seq ?_
  refine s_reg [0, 1, 2, 3, 4, 5, 6] rfl ?_
  refine o_pu rfl (ev_move rfl rfl) (g0 rfl) rfl rfl ?_
  refine o_pu rfl (ev_move rfl rfl) (g0 rfl) rfl rfl ?_
  refine o_pu rfl (ev_min rfl rfl rfl) (g0 rfl) rfl rfl ?_
  refine o_pu rfl (ev_max rfl rfl rfl) (g0 rfl) rfl rfl ?_
  obtain ⟨r3, Hc4, H⟩ := bind_some' H
  refine oc (k_call (c_field_Reader_take a0_rp (⟨a0_r.b, a0_r.bad⟩ : ReaderS) A1 c2 (if 0 < (if 8 < a1_size then 8 else a1_size) then (if 8 < a1_size then 8 else a1_size) else 0) r3 Hc4) Tryd.call114 rfl rfl rfl [0] [0] rfl rfl (g0 rfl) rfl rfl ?_)
  rintro _ _ _ ⟨A5, c6, A7, c8, rfl, rfl, rfl⟩
  dsimp only [app]
  refine o_pu rfl (ev_len_slice rfl rfl Tryd.runUnderlying32) (g0 rfl) rfl rfl ?_
  refine o_pu rfl (ev_move rfl rfl) (g0 rfl) rfl rfl ?_
  refine o_nil ?_
  refine q_then ?_
  refine q_join (fun (x10 : UInt64) (y11 : Unit) => ⟨Sl E8 A7 c8 r3.2.b :: Sl E8 A5 c6 r3.1 :: Sl E8 A1 c2 a0_r.b :: D0, At a0_rp 0 [.slice A7 r3.2.b.length c8, vb r3.2.bad] :: G0, [(5, (v64 x10))]⟩) H ?_ ?_
  · intro x10 y11 H
    dsimp only
    refine q_then ?_
    refine s_seq ?_
    refine s_reg [0, 1, 2] rfl ?_
    refine o_pu rfl (ev_move rfl rfl) (g0 rfl) rfl rfl ?_
    refine o_pu rfl (ev_conv rfl rfl (conv_u64_i _ Tryd.runUnderlying127 Tryd.runUnderlying3)) (g0 rfl) rfl rfl ?_
    refine o_pu rfl (ev_assign rfl rfl) (g0 rfl) rfl rfl ?_
    refine o_nil ?_
    refine q_then ?_
    refine s_ret ?_
    cases H
    exact q_end (rs_1 Tryd.results88 (rv_tmp rfl)) ⟨A7, c8, rfl, rfl, rfl⟩ [0] rfl 3 rfl [0] rfl 0 rfl
  · intro J9 H
    refine s_block ?_
    refine s_loop (k_wk (loop_ind (fun (s12 : UInt64 × Int) (y12 : Unit) => ⟨Sl E8 A7 c8 r3.2.b :: Sl E8 A5 c6 r3.1 :: Sl E8 A1 c2 a0_r.b :: D0, At a0_rp 0 [.slice A7 r3.2.b.length c8, vb r3.2.bad] :: G0, [(5, (v64 s12.1)), (12, (.slice A5 r3.1.length c6)), (13, (vi (r3.1.length : Int))), (14, (vi s12.2))]⟩) (field_Reader_Num_l0 r3 _) _ (fun _ => rfl) ?_ Fuel (0, 0) () H) [5, 12, 13, 14] [0, 1, 2] 3 [0] 0 rfl rfl rfl)
    intro k12 s12 y12 ih H
    dsimp only
    rw [field_Reader_Num_l0] at H
    refine s_seq ?_
    refine s_reg [0] rfl ?_
    refine o_pu rfl (ev_bin rfl rfl rfl rfl (lss_i _ _)) (g0 rfl) rfl rfl ?_
    refine o_nil ?_
    refine q_then ?_
    refine s_seq ?_
    refine s_cond rfl ?_ ?_
    · intro hb13
      have H := cnd_t H hb13
      refine s_skip ?_
      refine q_then ?_
      refine s_seq ?_
      refine s_block ?_
      refine s_seq ?_
      refine s_reg [0, 1, 2] rfl ?_
      obtain ⟨hk16, H⟩ := chk_some H
      refine oc (k_idx 0 1 rfl rfl rfl rfl rfl E8_len rfl Tryd.runUnderlying32 Tryd.sizeOf5 hk16 (g0 rfl) rfl rfl ?_)
      intro b14 q15
      refine o_ld (hD 0 rfl) rfl (ev_ld1 (j := 0) rfl rfl Tryd.isAgg5 (sub_nth (j := 0) rfl) rfl) (g0 rfl) rfl rfl ?_
      refine o_pu rfl (ev_assign rfl rfl) (g0 rfl) rfl rfl ?_
      refine o_nil ?_
      refine q_then ?_
      refine s_reg [0, 1, 2, 3, 4, 5] rfl ?_
      refine o_pu rfl (ev_move rfl rfl) (g0 rfl) rfl rfl ?_
      refine o_pu rfl (ev_bin rfl rfl rfl rfl (shl_64 _ 8)) (g0 rfl) rfl rfl ?_
      refine o_pu rfl (ev_move rfl rfl) (g0 rfl) rfl rfl ?_
      refine o_pu rfl (ev_conv rfl rfl (conv_u8_u64 _ Tryd.runUnderlying5 Tryd.runUnderlying127)) (g0 rfl) rfl rfl ?_
      refine o_pu rfl (ev_bin rfl rfl rfl rfl (or_64 _ _)) (g0 rfl) rfl rfl ?_
      refine o_pu rfl (ev_assign rfl rfl) (g0 rfl) rfl rfl ?_
      refine o_nil ?_
      refine q_block ?_
      refine q_then ?_
      refine s_reg [0, 1] rfl ?_
      refine o_pu rfl (ev_bin rfl rfl rfl rfl (add_i _ 1)) (g0 rfl) rfl rfl ?_
      refine o_pu rfl (ev_move rfl rfl) (g0 rfl) rfl rfl ?_
      refine o_nil ?_
      refine q_loop ?_
      exact k_wk (ih (((shl64 (s12.1 : UInt64) (8 : UInt64).toNat) ||| (at' 0 r3.1 s12.2).toUInt64), (wrap64 (s12.2 + 1))) () H) [5, 12, 13, 14] [1, 2, 3] 4 [0] 0 rfl rfl rfl
    · intro hb13
      have H := cnd_f H hb13
      refine s_exit ?_
      refine q_then_x ?_
      refine q_then_x ?_
      refine q_block_x ?_
      exact k_wk (J9 s12.1 () H) [5] [0, 1, 2] 3 [0] 0 rfl rfl rfl

def slices_Repeat_l0 (r5 : UInt64 × UInt64) (J16 : (List UInt8) → Option (List UInt8)) : Nat → (Int × List UInt8) → Option (List UInt8)
  | 0, _ => none
  | k20 + 1, s20 =>
    bif (decide (s20.1 < ((wrap64 (r5.2.toNat : Int)).toNat : Int))) then (
    chk (0 ≤ s20.1 ∧ s20.1 ≤ ((wrap64 (r5.2.toNat : Int)).toNat : Int) ∧ ((wrap64 (r5.2.toNat : Int)).toNat : Int) ≤ ((wrap64 (r5.2.toNat : Int)).toNat : Int) ∧ (s20.1 = 0 ∨ s20.1 < ((wrap64 (r5.2.toNat : Int)).toNat : Int))) <|
    chk (0 ≤ (0 : Int) ∧ (0 : Int) ≤ s20.1 ∧ s20.1 ≤ ((wrap64 (r5.2.toNat : Int)).toNat : Int) ∧ ((0 : Int) = 0 ∨ (0 : Int) < ((wrap64 (r5.2.toNat : Int)).toNat : Int))) <|
    chk (0 ≤ (0 : Int) ∧ (0 : Int) ≤ s20.1 ∧ s20.1 ≤ (s20.2.length : Int)) <|
    chk (0 ≤ s20.1 ∧ s20.1 ≤ ((wrap64 (r5.2.toNat : Int)).toNat : Int) ∧ ((wrap64 (r5.2.toNat : Int)).toNat : Int) ≤ (s20.2.length : Int)) <|
    slices_Repeat_l0 r5 J16 k20 ((wrap64 (s20.1 + (min ((s20.1 - (0 : Int)).toNat) ((((wrap64 (r5.2.toNat : Int)).toNat : Int) - s20.1).toNat) : Nat))), (wr s20.2 s20.1 ((wrap64 (r5.2.toNat : Int)).toNat : Int) (slc s20.2 (0 : Int) s20.1)))) else (
    J16 s20.2)

def slices_Repeat (a0_x : List UInt8) (a1_count : Int) : Option (List UInt8) :=
bif (decide (a1_count < 0)) then (
none) else (
(math_bits_Mul (UInt64.ofInt (a0_x.length : Int)) (UInt64.ofInt a1_count)).bind fun r5 =>
bnd (decide ((0 : UInt64) < (r5.1 : UInt64))) fun b7 =>
jn (fun x10 =>
bif x10 then (
none) else (
chk (0 ≤ (wrap64 (r5.2.toNat : Int)) ∧ (wrap64 (r5.2.toNat : Int)) ≤ 68719476736) <|
chk ((List.replicate (wrap64 (r5.2.toNat : Int)).toNat (0 : UInt8)).length = (wrap64 (r5.2.toNat : Int)).toNat) <|
jn (fun (x17 : List UInt8) =>
chk (x17.length = (wrap64 (r5.2.toNat : Int)).toNat) <|
some x17) fun J16 =>
slices_Repeat_l0 r5 J16 Fuel ((min a0_x.length ((wrap64 (r5.2.toNat : Int)).toNat) : Nat), (cpy (List.replicate (wrap64 (r5.2.toNat : Int)).toNat (0 : UInt8)) a0_x)))) fun J9 =>
bif b7 then (
J9 true) else
J9 (decide ((9223372036854775807 : UInt64) < (r5.2 : UInt64))))

theorem c_slices_Repeat (a0_x : List UInt8) (A1 : Option Addr) (c2 : Nat) (a1_count : Int) (r : (List UInt8)) (H : slices_Repeat a0_x a1_count = some r) : Fn Tryd.prog 31 [(.slice A1 a0_x.length c2), (vi a1_count)] [Sl E8 A1 c2 a0_x] [] (fun v D' G' => ∃ (b26 : Nat), v = (.slice (some ⟨b26, 0, none⟩) r.length r.length) ∧ D' = [] ∧ G' = [At b26 0 (r.flatMap E8)]) := by
  unfold slices_Repeat at H
  refine fn_of Tryd.func31 rfl Tryd.ntmps31 rfl ?_
  intro w0 D0 G0
  dsimp only [app, initEnv, Nat.zero_add, Nat.reduceAdd]
  refine s_seq ?_
  refine s_reg [0] rfl ?_
  refine o_pu rfl (ev_assign rfl rfl) (g0 rfl) rfl rfl ?_
  refine o_nil ?_
  refine q_then ?_
  refine s_seq ?_
  refine s_seq ?_
  refine s_reg [0, 1] rfl ?_
  refine o_pu rfl (ev_move rfl rfl) (g0 rfl) rfl rfl ?_
  refine o_pu rfl (ev_bin rfl rfl rfl rfl (lss_i _ 0)) (g0 rfl) rfl rfl ?_
  refine o_nil ?_
  refine q_then ?_
  refine s_cond rfl ?_ ?_
  · intro hb4
    have H := cnd_t H hb4
    refine s_reg [0, 1] rfl ?_
    cases H
  · intro hb4
    have H := cnd_f H hb4
    refine s_skip ?_
    refine q_then ?_
    refine s_seq ?_
    refine s_reg [0, 1, 2, 3, 4, 5, 6, 7, 8, 9, 10] rfl ?_
    refine o_pu rfl (ev_move rfl rfl) (g0 rfl) rfl rfl ?_
    refine o_pu rfl (ev_len_slice rfl rfl Tryd.runUnderlying32) (g0 rfl) rfl rfl ?_
    refine o_pu rfl (ev_conv rfl rfl (conv_i_u64 _ Tryd.runUnderlying3 Tryd.runUnderlying50)) (g0 rfl) rfl rfl ?_
    refine o_pu rfl (ev_move rfl rfl) (g0 rfl) rfl rfl ?_
    refine o_pu rfl (ev_conv rfl rfl (conv_i_u64 _ Tryd.runUnderlying3 Tryd.runUnderlying50)) (g0 rfl) rfl rfl ?_
    obtain ⟨r5, Hc6, H⟩ := bind_some' H
    refine oc (k_call (c_math_bits_Mul (UInt64.ofInt (a0_x.length : Int)) (UInt64.ofInt a1_count) r5 Hc6) Tryd.call50 rfl rfl rfl [] [] rfl rfl (g0 rfl) rfl rfl ?_)
    rintro _ _ _ ⟨rfl, rfl, rfl⟩
    dsimp only [app]
    refine o_pu rfl (ev_move rfl rfl) (g0 rfl) rfl rfl ?_
    refine o_pu rfl (ev_extract rfl rfl rfl) (g0 rfl) rfl rfl ?_
    refine o_pu rfl (ev_extract rfl rfl rfl) (g0 rfl) rfl rfl ?_
    refine o_pu rfl (ev_assign rfl rfl) (g0 rfl) rfl rfl ?_
    refine o_pu rfl (ev_assign rfl rfl) (g0 rfl) rfl rfl ?_
    refine o_nil ?_
    refine q_then ?_
    refine s_seq ?_
    refine s_seq ?_
    refine s_reg [0, 1, 2, 3, 4, 5] rfl ?_
    refine o_pu rfl (ev_move rfl rfl) (g0 rfl) rfl rfl ?_
    refine o_pu rfl (ev_bin rfl rfl rfl rfl (gtr_64 _ 0)) (g0 rfl) rfl rfl ?_
    refine o_pu rfl (ev_move rfl rfl) (g0 rfl) rfl rfl ?_
    refine k_name 23 rfl ?_
    intro b7 hb8
    have H := bnd_eq H hb8
    refine o_jb 26 [] [0, 1, 4, 5, 6, 9, 10, 12, 13, 14, 15, 16, 17, 18, 19, 20, 21, 22, 23] H rfl ?_ ?_
    · intro x10 H
      refine o_nil ?_
      refine q_then ?_
      refine s_cond rfl ?_ ?_
      · intro hb12
        have H := cnd_t H hb12
        refine s_reg [0, 1] rfl ?_
        cases H
      · intro hb12
        have H := cnd_f H hb12
        refine s_skip ?_
        refine q_then ?_
        refine s_seq ?_
        refine s_reg [0, 1, 2, 3] rfl ?_
        refine o_pu rfl (ev_move rfl rfl) (g0 rfl) rfl rfl ?_
        refine o_pu rfl (ev_conv rfl rfl (conv_u64_i _ Tryd.runUnderlying50 Tryd.runUnderlying3)) (g0 rfl) rfl rfl ?_
        obtain ⟨hk14, H⟩ := chk_some H
        refine oc (k_make (f := E8) (m := (wrap64 (r5.2.toNat : Int))) (0 : UInt8) rfl rfl rfl rfl Tryd.underlying32 info5 rfl rfl rfl rfl rfl hk14 (g0 rfl) rfl rfl ?_)
        intro b13
        refine o_pu rfl (ev_assign rfl rfl) (g0 rfl) rfl rfl ?_
        refine o_nil ?_
        refine q_then ?_
        refine s_seq ?_
        refine s_reg [0, 1, 2, 3] rfl ?_
        refine o_pu rfl (ev_move rfl rfl) (g0 rfl) rfl rfl ?_
        refine o_pu rfl (ev_move rfl rfl) (g0 rfl) rfl rfl ?_
        obtain ⟨hk15, H⟩ := chk_some H
        refine oc (k_copy (xs := (List.replicate (wrap64 (r5.2.toNat : Int)).toNat (0 : UInt8))) (j := 0) rfl rfl rfl rfl Tryd.underlying32 info5 rfl E8_len E8_one 0 rfl 0 rfl hk15 (sub_all _) (spl_all (by rw [flatMap_length E8_len, flatMap_length E8_len, cpy_len])) rfl (g0 rfl) rfl rfl ?_)
        refine o_pu rfl (ev_assign rfl rfl) (g0 rfl) rfl rfl ?_
        refine o_nil ?_
        refine q_then ?_
        refine s_seq ?_
        refine q_join (fun (x17 : List UInt8) (y18 : Unit) => ⟨Sl E8 A1 c2 a0_x :: D0, At b13 0 (x17.flatMap E8) :: G0, [(7, (.slice (some ⟨b13, 0, none⟩) ((wrap64 (r5.2.toNat : Int)).toNat) ((wrap64 (r5.2.toNat : Int)).toNat)))]⟩) H ?_ ?_
        · intro x17 y18 H
          dsimp only
          refine q_then ?_
          refine s_seq ?_
          refine s_reg [0, 1] rfl ?_
          refine o_pu rfl (ev_move rfl rfl) (g0 rfl) rfl rfl ?_
          refine o_pu rfl (ev_assign rfl rfl) (g0 rfl) rfl rfl ?_
          refine o_nil ?_
          refine q_then ?_
          refine s_ret ?_
          obtain ⟨hk19, H⟩ := chk_some H
          refine k_eq (v' := (.slice (some ⟨b13, 0, none⟩) x17.length x17.length)) 4 rfl (by rw [hk19]) ?_
          refine k_eq (v' := (.slice (some ⟨b13, 0, none⟩) x17.length x17.length)) 7 rfl (by rw [hk19]) ?_
          refine k_eq (v' := (.slice (some ⟨b13, 0, none⟩) x17.length x17.length)) 47 rfl (by rw [hk19]) ?_
          cases H
          exact q_end (rs_1 Tryd.results31 (rv_tmp rfl)) ⟨b13, rfl, rfl, rfl⟩ [] rfl 1 rfl [0] rfl 0 rfl
        · intro J16 H
          refine s_block ?_
          refine s_loop (k_wk (loop_ind (fun (s20 : Int × List UInt8) (y20 : Unit) => ⟨Sl E8 A1 c2 a0_x :: D0, At b13 0 (s20.2.flatMap E8) :: G0, [(7, (.slice (some ⟨b13, 0, none⟩) ((wrap64 (r5.2.toNat : Int)).toNat) ((wrap64 (r5.2.toNat : Int)).toNat))), (8, (vi s20.1))]⟩) (slices_Repeat_l0 r5 _) _ (fun _ => rfl) ?_ Fuel ((min a0_x.length ((wrap64 (r5.2.toNat : Int)).toNat) : Nat), (cpy (List.replicate (wrap64 (r5.2.toNat : Int)).toNat (0 : UInt8)) a0_x)) () H) [7, 8] [0] 1 [0] 0 rfl rfl rfl)
          intro k20 s20 y20 ih H
          dsimp only
          rw [slices_Repeat_l0] at H
          refine s_seq ?_
          refine s_seq ?_
          refine s_reg [0, 1, 2, 3] rfl ?_
          refine o_pu rfl (ev_move rfl rfl) (g0 rfl) rfl rfl ?_
          refine o_pu rfl (ev_move rfl rfl) (g0 rfl) rfl rfl ?_
          refine o_pu rfl (ev_len_slice rfl rfl Tryd.runUnderlying32) (g0 rfl) rfl rfl ?_
          refine o_pu rfl (ev_bin rfl rfl rfl rfl (lss_i _ _)) (g0 rfl) rfl rfl ?_
          refine o_nil ?_
          refine q_then ?_
          refine s_cond rfl ?_ ?_
          · intro hb21
            have H := cnd_t H hb21
            refine s_skip ?_
            refine q_then ?_
            refine s_block ?_
            refine s_draw mixed [] ?_
            refine a_pu 0 rfl (ev_move rfl rfl) (by rfl) (by kernel_rfl) (by kernel_rfl) (by kernel_rfl) (fun _ _ _ h => h) (g0 rfl) rfl rfl ?_
            refine a_pu 1 rfl (ev_move rfl rfl) (by rfl) (by kernel_rfl) (by kernel_rfl) (by kernel_rfl) (fun _ _ _ h => h) (g0 rfl) rfl rfl ?_
            refine a_pu 2 rfl (ev_move rfl rfl) (by rfl) (by kernel_rfl) (by kernel_rfl) (by kernel_rfl) (fun _ _ _ h => h) (g0 rfl) rfl rfl ?_
            obtain ⟨hk22, H⟩ := chk_some H
            refine a_pu 3 rfl (ev_slice_o (kb := .i64) (a := s20.1) (b' := ((wrap64 (r5.2.toNat : Int)).toNat : Int)) rfl rfl Tryd.runUnderlying32 Tryd.sizeOf5 (.inr rfl) (.inl ⟨rfl, rfl⟩) ⟨hk22.1, hk22.2.1, hk22.2.2.1, Nat.le_refl _, hk22.2.2.2⟩ rfl) (by rfl) (by kernel_rfl) (by kernel_rfl) (by kernel_rfl) (fun _ _ _ h => h) (g0 rfl) rfl rfl ?_
            refine a_pu 4 rfl (ev_move rfl rfl) (by rfl) (by kernel_rfl) (by kernel_rfl) (by kernel_rfl) (fun _ _ _ h => h) (g0 rfl) rfl rfl ?_
            refine a_pu 5 rfl (ev_move rfl rfl) (by rfl) (by kernel_rfl) (by kernel_rfl) (by kernel_rfl) (fun _ _ _ h => h) (g0 rfl) rfl rfl ?_
            obtain ⟨hk23, H⟩ := chk_some H
            refine a_pu 6 rfl (ev_slice_o (ka := .i64) (a := (0 : Int)) (b' := s20.1) rfl rfl Tryd.runUnderlying32 Tryd.sizeOf5 (.inl ⟨rfl, rfl⟩) (.inr rfl) ⟨hk23.1, hk23.2.1, hk23.2.2.1, Nat.le_refl _, hk23.2.2.2⟩ rfl) (by rfl) (by kernel_rfl) (by kernel_rfl) (by kernel_rfl) (fun _ _ _ h => h) (g0 rfl) rfl rfl ?_
            refine ac 7 (by kernel_rfl) sl_nil ?_
            obtain ⟨hk24, H⟩ := chk_some H
            obtain ⟨hk25, H⟩ := chk_some H
            refine k_copy2 (xs := (slc s20.2 s20.1 ((wrap64 (r5.2.toNat : Int)).toNat : Int))) (ys := (slc s20.2 (0 : Int) s20.1)) (j := (s20.1.toNat * 1)) rfl rfl rfl rfl Tryd.underlying32 info5 rfl E8_len E8_one 0 rfl (hsG (f := E8) (slc s20.2 (0 : Int) s20.1) 0 rfl (sub_slc E8_len hk24 rfl) rfl) (slc_length _ hk24.1 hk24.2.1 hk24.2.2) (slc_length _ hk25.1 hk25.2.1 hk25.2.2) (sub_slc E8_len hk25 rfl) (spl_slc E8_len _ hk25 rfl) rfl (g0 rfl) rfl rfl ?_
            refine a_pu 8 rfl (ev_bin rfl rfl rfl rfl (add_i _ _)) (by rfl) (by kernel_rfl) (by kernel_rfl) (by kernel_rfl) (fun _ _ _ h => h) (g0 rfl) rfl rfl ?_
            refine a_pu 9 rfl (ev_assign rfl rfl) (by rfl) (by kernel_rfl) (by kernel_rfl) (by kernel_rfl) (fun _ _ _ h => h) (g0 rfl) rfl rfl ?_
            refine a_done (by kernel_rfl) sl_nil ?_
            refine q_block ?_
            refine q_loop ?_
            exact k_wk (ih ((wrap64 (s20.1 + (min ((s20.1 - (0 : Int)).toNat) ((((wrap64 (r5.2.toNat : Int)).toNat : Int) - s20.1).toNat) : Nat))), (wr s20.2 s20.1 ((wrap64 (r5.2.toNat : Int)).toNat : Int) (slc s20.2 (0 : Int) s20.1))) () H) [7, 8] [0] 1 [0] 0 rfl rfl rfl
          · intro hb21
            have H := cnd_f H hb21
            refine s_exit ?_
            refine q_then_x ?_
            refine q_then_x ?_
            refine q_block_x ?_
            exact k_wk (J16 s20.2 () H) [7] [0] 1 [0] 0 rfl rfl rfl
    · intro J9 H
      cases b7 with
      | true =>
        rw [cond_true] at H
        refine o_gnot rfl rfl rfl rfl rfl rfl rfl rfl ?_
        refine o_gnot rfl rfl rfl rfl rfl rfl rfl rfl ?_
        refine o_pu rfl (ev_pick_t rfl rfl rfl) (g0 rfl) rfl rfl ?_
        exact k_wk (J9 true H) [26, 0, 1, 4, 5, 6, 9, 10, 12, 13, 14, 15, 16, 17, 18, 19, 20, 21, 22, 23] [0] 1 [] 0 rfl rfl rfl
      | false =>
        rw [cond_false] at H
        refine o_pu rfl (ev_move rfl rfl) (g1 rfl rfl rfl rfl) rfl rfl ?_
        refine o_pu rfl (ev_bin rfl rfl rfl rfl (gtr_64 _ 9223372036854775807)) (g1 rfl rfl rfl rfl) rfl rfl ?_
        refine o_pu rfl (ev_pick_f rfl rfl rfl) (g0 rfl) rfl rfl ?_
        exact k_wk (J9 (decide ((9223372036854775807 : UInt64) < (r5.2 : UInt64))) H) [26, 0, 1, 4, 5, 6, 9, 10, 12, 13, 14, 15, 16, 17, 18, 19, 20, 21, 22, 23] [0] 1 [] 0 rfl rfl rfl

end Go.Proofs.YtphbbnlbfbhcaaaDoor.Wl
