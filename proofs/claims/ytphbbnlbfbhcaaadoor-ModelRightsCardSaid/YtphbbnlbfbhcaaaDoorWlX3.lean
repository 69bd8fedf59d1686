import Derived.Test.YtphbbnlbfbhcaaaDoorWlW
import Derived.Test.YtphbbnlbfbhcaaaDoorWlX0
import Derived.Test.YtphbbnlbfbhcaaaDoorWlX1
set_option linter.unusedSimpArgs false
set_option linter.unusedVariables false
set_option maxRecDepth 10000
namespace Go.Proofs.YtphbbnlbfbhcaaaDoor.Wl
open Go.RowKit Go.Proofs
def meta_phase (a0_m : MetaS) : Option Bool :=
bif (a0_m.Phase == 0) then (
(meta_none a0_m.Coming).bind fun r3 =>
bnd r3 fun b5 =>
jn (fun x8 =>
bnd x8 fun b9 =>
jn (fun x12 =>
some x12) fun J11 =>
bif b9 then (
J11 (a0_m.Trials == 0)) else
J11 false) fun J7 =>
bif b5 then (
J7 (a0_m.Got == 0)) else
J7 false) else (
jn (fun (x15 : Bool) =>
bif x15 then (
(meta_chunks a0_m.Coming).bind fun r18 =>
(meta_none a0_m.Coming).bind fun r20 =>
bnd (!r20) fun b22 =>
jn (fun x25 =>
bnd x25 fun b26 =>
jn (fun x29 =>
bnd x29 fun b30 =>
jn (fun x33 =>
some x33) fun J32 =>
bif b30 then (
bnd (a0_m.Got == r18) fun b34 =>
jn (fun x37 =>
J32 x37) fun J36 =>
bif b34 then (
J36 true) else
bnd (a0_m.Phase == 1) fun b38 =>
jn (fun x41 =>
J36 x41) fun J40 =>
bif b38 then (
J40 (decide (a0_m.Got < r18))) else
J40 false) else
J32 false) fun J28 =>
bif b26 then (
J28 (a0_m.Trials == 0)) else
J28 false) fun J24 =>
bif b22 then (
(meta_Other a0_m).bind fun r42 =>
chk (0 ≤ r42 ∧ r42 < 2) <|
(meta_none (at' Img.zero a0_m.Have.l r42)).bind fun r45 =>
J24 r45) else
J24 false) else (
bif (a0_m.Phase == 3) then (
(meta_none a0_m.Coming).bind fun r48 =>
bnd r48 fun b50 =>
jn (fun x53 =>
bnd x53 fun b54 =>
jn (fun x57 =>
some x57) fun J56 =>
bif b54 then (
(meta_Other a0_m).bind fun r58 =>
chk (0 ≤ r58 ∧ r58 < 2) <|
(meta_none (at' Img.zero a0_m.Have.l r58)).bind fun r61 =>
J56 (!r61)) else
J56 false) fun J52 =>
bif b50 then (
J52 (a0_m.Got == 0)) else
J52 false) else (
some false))) fun J14 =>
bif (a0_m.Phase == 1) then (
J14 (a0_m.Phase == 1)) else (
J14 (a0_m.Phase == 2)))

theorem c_meta_phase (a0_m : MetaS) (r : Bool) (H : meta_phase a0_m = some r) : Fn Tryd.prog 75 [(.agg (MetaS.cells a0_m).toArray)] [] [] (fun v D' G' => v = (vb r) ∧ D' = [] ∧ G' = []) := by
  unfold meta_phase at H
  refine fn_of Tryd.func75 rfl Tryd.ntmps75 rfl ?_
  intro w0 D0 G0
  dsimp only [app, initEnv, Nat.zero_add, Nat.reduceAdd]
  refine s_seq ?_
  refine s_reg [0, 1] rfl ?_
  refine oc (k_box rfl rfl rfl (cs := MetaS.cells a0_m) rfl (g0 rfl) rfl rfl ?_)
  intro b1
  refine o_pu rfl (ev_assign rfl rfl) (g0 rfl) rfl rfl ?_
  refine o_nil ?_
  refine q_then ?_
  refine s_seq ?_
  refine s_seq ?_
  refine s_reg [0, 1] rfl ?_
  refine o_pu rfl (ev_fieldAddr rfl rfl Tryd.runUnderlying74 rfl Tryd.sizeOf3 rfl rfl) (g0 rfl) rfl rfl ?_
  refine o_ld (hG 0 rfl) rfl (ev_ld1 (j := 70) rfl rfl Tryd.isAgg3 (MetaS.sub_Phase _) rfl) (g0 rfl) rfl rfl ?_
  refine o_nil ?_
  refine q_then ?_
  refine s_block ?_
  refine s_seq ?_
  refine s_reg [0, 1] rfl ?_
  refine o_pu rfl (ev_bin rfl rfl rfl rfl (eql_i _ 0)) (g0 rfl) rfl rfl ?_
  refine o_pu rfl (ev_assign rfl rfl) (g0 rfl) rfl rfl ?_
  refine o_nil ?_
  refine q_then ?_
  refine s_cond rfl ?_ ?_
  · intro hb2
    have H := cnd_t H hb2
    refine s_seq ?_
    refine s_reg [0, 1, 2, 3, 4, 5, 6, 7, 8, 9, 10, 11, 12, 13] rfl ?_
    refine o_pu rfl (ev_fieldAddr rfl rfl Tryd.runUnderlying74 rfl Tryd.sizeOf71 rfl rfl) (g0 rfl) rfl rfl ?_
    refine o_ld (hG 0 rfl) rfl (ev_ldN (j := 71) rfl rfl Tryd.isAgg71 (sz (Img.len _) Tryd.sizeOf71) (MetaS.sub_Coming _) rfl) (g0 rfl) rfl rfl ?_
    obtain ⟨r3, Hc4, H⟩ := bind_some' H
    refine oc (k_call (c_meta_none a0_m.Coming r3 Hc4) Tryd.call74 rfl rfl rfl [] [] rfl rfl (g0 rfl) rfl rfl ?_)
    rintro _ _ _ ⟨rfl, rfl, rfl⟩
    dsimp only [app]
    refine o_pu rfl (ev_move rfl rfl) (g0 rfl) rfl rfl ?_
    refine k_name 11 rfl ?_
    intro b5 hb6
    have H := bnd_eq H hb6
    refine o_jb 15 [8, 9, 10, 11, 12, 13] [0, 1, 2, 4, 5, 6, 7, 8, 9, 10, 11] H rfl ?_ ?_
    · intro x8 H
      refine o_pu rfl (ev_move rfl rfl) (g0 rfl) rfl rfl ?_
      refine k_name 16 rfl ?_
      intro b9 hb10
      have H := bnd_eq H hb10
      refine o_jb 20 [13] [0, 1, 2, 4, 5, 6, 7, 8, 9, 10, 11, 15, 16] H rfl ?_ ?_
      · intro x12 H
        refine o_pu rfl (ev_assign rfl rfl) (g0 rfl) rfl rfl ?_
        refine o_nil ?_
        refine q_then ?_
        refine s_ret ?_
        refine q_block_r ?_
        refine q_then_r ?_
        cases H
        exact q_end (rs_1 Tryd.results75 (rv_tmp rfl)) ⟨rfl, rfl, rfl⟩ [] rfl 0 rfl [] rfl 1 rfl
      · intro J11 H
        cases b9 with
        | true =>
          rw [cond_true] at H
          refine o_pu rfl (ev_fieldAddr rfl rfl Tryd.runUnderlying74 rfl Tryd.sizeOf3 rfl rfl) (g1 rfl rfl rfl rfl) rfl rfl ?_
          refine o_ld (hG 0 rfl) rfl (ev_ld1 (j := 106) rfl rfl Tryd.isAgg3 (MetaS.sub_Trials _) rfl) (g1 rfl rfl rfl rfl) rfl rfl ?_
          refine o_pu rfl (ev_bin rfl rfl rfl rfl (eql_i _ 0)) (g1 rfl rfl rfl rfl) rfl rfl ?_
          refine o_pu rfl (ev_pick_t rfl rfl rfl) (g0 rfl) rfl rfl ?_
          exact k_wk (J11 (a0_m.Trials == 0) H) [20, 0, 1, 2, 4, 5, 6, 7, 8, 9, 10, 11, 15, 16] [] 0 [0] 0 rfl rfl rfl
        | false =>
          rw [cond_false] at H
          refine o_gnot rfl rfl rfl rfl rfl rfl rfl rfl ?_
          refine o_gnot rfl rfl rfl rfl rfl rfl rfl rfl ?_
          refine o_gnot rfl rfl rfl rfl rfl rfl rfl rfl ?_
          refine o_pu rfl (ev_pick_f rfl rfl rfl) (g0 rfl) rfl rfl ?_
          exact k_wk (J11 false H) [20, 0, 1, 2, 4, 5, 6, 7, 8, 9, 10, 11, 15, 16] [] 0 [0] 0 rfl rfl rfl
    · intro J7 H
      cases b5 with
      | true =>
        rw [cond_true] at H
        refine o_pu rfl (ev_fieldAddr rfl rfl Tryd.runUnderlying74 rfl Tryd.sizeOf3 rfl rfl) (g1 rfl rfl rfl rfl) rfl rfl ?_
        refine o_ld (hG 0 rfl) rfl (ev_ld1 (j := 105) rfl rfl Tryd.isAgg3 (MetaS.sub_Got _) rfl) (g1 rfl rfl rfl rfl) rfl rfl ?_
        refine o_pu rfl (ev_bin rfl rfl rfl rfl (eql_i _ 0)) (g1 rfl rfl rfl rfl) rfl rfl ?_
        refine o_pu rfl (ev_pick_t rfl rfl rfl) (g0 rfl) rfl rfl ?_
        exact k_wk (J7 (a0_m.Got == 0) H) [15, 0, 1, 2, 4, 5, 6, 7, 8, 9, 10, 11] [] 0 [0] 0 rfl rfl rfl
      | false =>
        rw [cond_false] at H
        refine o_gnot rfl rfl rfl rfl rfl rfl rfl rfl ?_
        refine o_gnot rfl rfl rfl rfl rfl rfl rfl rfl ?_
        refine o_gnot rfl rfl rfl rfl rfl rfl rfl rfl ?_
        refine o_pu rfl (ev_pick_f rfl rfl rfl) (g0 rfl) rfl rfl ?_
        exact k_wk (J7 false H) [15, 0, 1, 2, 4, 5, 6, 7, 8, 9, 10, 11] [] 0 [0] 0 rfl rfl rfl
  · intro hb2
    have H := cnd_f H hb2
    refine s_seq ?_
    refine s_seq ?_
    refine s_reg [0, 1] rfl ?_
    refine o_pu rfl (ev_bin rfl rfl rfl rfl (eql_i _ 1)) (g0 rfl) rfl rfl ?_
    refine o_pu rfl (ev_assign rfl rfl) (g0 rfl) rfl rfl ?_
    refine o_nil ?_
    refine q_then ?_
    refine q_join (fun (x15 : Bool) (y16 : Unit) => ⟨D0, At b1 0 (MetaS.cells a0_m) :: G0, [(1, (.pointer (some ⟨b1, 0, none⟩))), (5, (vi a0_m.Phase)), (21, (vb x15))]⟩) H ?_ ?_
    · intro x15 y16 H
      dsimp only
      refine q_then ?_
      refine s_cond rfl ?_ ?_
      · intro hb17
        have H := cnd_t H hb17
        refine s_seq ?_
        refine s_reg [0, 1, 2, 3] rfl ?_
        refine o_pu rfl (ev_fieldAddr rfl rfl Tryd.runUnderlying74 rfl Tryd.sizeOf71 rfl rfl) (g0 rfl) rfl rfl ?_
        refine o_ld (hG 0 rfl) rfl (ev_ldN (j := 71) rfl rfl Tryd.isAgg71 (sz (Img.len _) Tryd.sizeOf71) (MetaS.sub_Coming _) rfl) (g0 rfl) rfl rfl ?_
        obtain ⟨r18, Hc19, H⟩ := bind_some' H
        refine oc (k_call (c_meta_chunks a0_m.Coming r18 Hc19) Tryd.call105 rfl rfl rfl [] [] rfl rfl (g0 rfl) rfl rfl ?_)
        rintro _ _ _ ⟨rfl, rfl, rfl⟩
        dsimp only [app]
        refine o_pu rfl (ev_assign rfl rfl) (g0 rfl) rfl rfl ?_
        refine o_nil ?_
        refine q_then ?_
        refine s_seq ?_
        refine s_reg [0, 1, 2, 3, 4, 5, 6, 7, 8, 9, 10, 11, 12, 13, 14, 15, 16, 17, 18, 19, 20, 21, 22, 23, 24, 25, 26, 27, 28, 29, 30, 31, 32, 33, 34] rfl ?_
        refine o_pu rfl (ev_fieldAddr rfl rfl Tryd.runUnderlying74 rfl Tryd.sizeOf71 rfl rfl) (g0 rfl) rfl rfl ?_
        refine o_ld (hG 0 rfl) rfl (ev_ldN (j := 71) rfl rfl Tryd.isAgg71 (sz (Img.len _) Tryd.sizeOf71) (MetaS.sub_Coming _) rfl) (g0 rfl) rfl rfl ?_
        obtain ⟨r20, Hc21, H⟩ := bind_some' H
        refine oc (k_call (c_meta_none a0_m.Coming r20 Hc21) Tryd.call74 rfl rfl rfl [] [] rfl rfl (g0 rfl) rfl rfl ?_)
        rintro _ _ _ ⟨rfl, rfl, rfl⟩
        dsimp only [app]
        refine o_pu rfl (ev_not rfl rfl) (g0 rfl) rfl rfl ?_
        refine o_pu rfl (ev_move rfl rfl) (g0 rfl) rfl rfl ?_
        refine k_name 31 rfl ?_
        intro b22 hb23
        have H := bnd_eq H hb23
        refine o_jb 38 [12, 13, 14, 15, 16, 17, 18, 19, 20, 21, 22, 23, 24, 25, 26, 27, 28, 29, 30, 31, 32, 33, 34] [1, 3, 5, 21, 24, 25, 26, 27, 28, 29, 30, 31] H rfl ?_ ?_
        · intro x25 H
          refine o_pu rfl (ev_move rfl rfl) (g0 rfl) rfl rfl ?_
          refine k_name 39 rfl ?_
          intro b26 hb27
          have H := bnd_eq H hb27
          refine o_jb 43 [17, 18, 19, 20, 21, 22, 23, 24, 25, 26, 27, 28, 29, 30, 31, 32, 33, 34] [1, 3, 5, 21, 24, 25, 26, 27, 28, 29, 30, 31, 38, 39] H rfl ?_ ?_
          · intro x29 H
            refine o_pu rfl (ev_move rfl rfl) (g0 rfl) rfl rfl ?_
            refine k_name 44 rfl ?_
            intro b30 hb31
            have H := bnd_eq H hb31
            refine o_jb 60 [34] [1, 3, 5, 21, 24, 25, 26, 27, 28, 29, 30, 31, 38, 39, 43, 44] H rfl ?_ ?_
            · intro x33 H
              refine o_pu rfl (ev_assign rfl rfl) (g0 rfl) rfl rfl ?_
              refine o_nil ?_
              refine q_then ?_
              refine s_ret ?_
              refine q_block_r ?_
              refine q_then_r ?_
              cases H
              exact q_end (rs_1 Tryd.results75 (rv_tmp rfl)) ⟨rfl, rfl, rfl⟩ [] rfl 0 rfl [] rfl 1 rfl
            · intro J32 H
              cases b30 with
              | true =>
                rw [cond_true] at H
                refine o_pu rfl (ev_fieldAddr rfl rfl Tryd.runUnderlying74 rfl Tryd.sizeOf3 rfl rfl) (g1 rfl rfl rfl rfl) rfl rfl ?_
                refine o_ld (hG 0 rfl) rfl (ev_ld1 (j := 105) rfl rfl Tryd.isAgg3 (MetaS.sub_Got _) rfl) (g1 rfl rfl rfl rfl) rfl rfl ?_
                refine o_pu rfl (ev_move rfl rfl) (g1 rfl rfl rfl rfl) rfl rfl ?_
                refine o_pu rfl (ev_bin rfl rfl rfl rfl (eql_i _ _)) (g1 rfl rfl rfl rfl) rfl rfl ?_
                refine o_pu rfl (ev_move rfl rfl) (g1 rfl rfl rfl rfl) rfl rfl ?_
                refine k_name 49 rfl ?_
                intro b34 hb35
                have H := bnd_eq H hb35
                refine o_jb 59 [33, 34] [1, 3, 5, 21, 24, 25, 26, 27, 28, 29, 30, 31, 38, 39, 43, 44, 45, 46, 47, 48, 49] H rfl ?_ ?_
                · intro x37 H
                  refine o_pu rfl (ev_pick_t rfl rfl rfl) (g0 rfl) rfl rfl ?_
                  exact k_wk (J32 x37 H) [60, 1, 3, 5, 21, 24, 25, 26, 27, 28, 29, 30, 31, 38, 39, 43, 44] [] 0 [0] 0 rfl rfl rfl
                · intro J36 H
                  cases b34 with
                  | true =>
                    rw [cond_true] at H
                    refine o_gnot rfl rfl rfl rfl rfl rfl rfl rfl ?_
                    refine o_gnot rfl rfl rfl rfl rfl rfl rfl rfl ?_
                    refine o_gnot rfl rfl rfl rfl rfl rfl rfl rfl ?_
                    refine o_gnot rfl rfl rfl rfl rfl rfl rfl rfl ?_
                    refine o_gundef rfl rfl rfl rfl rfl rfl rfl ?_
                    refine o_gundef rfl rfl rfl rfl rfl rfl rfl ?_
                    refine o_gundef rfl rfl rfl rfl rfl rfl rfl ?_
                    refine o_gundef rfl rfl rfl rfl rfl rfl rfl ?_
                    refine o_gnot rfl rfl rfl rfl rfl rfl rfl rfl ?_
                    refine o_pu rfl (ev_pick_t rfl rfl rfl) (g1 rfl rfl rfl rfl) rfl rfl ?_
                    exact k_wk (J36 true H) [59, 1, 3, 5, 21, 24, 25, 26, 27, 28, 29, 30, 31, 38, 39, 43, 44, 45, 46, 47, 48, 49] [] 0 [0] 0 rfl rfl rfl
                  | false =>
                    rw [cond_false] at H
                    refine o_pu rfl (ev_fieldAddr rfl rfl Tryd.runUnderlying74 rfl Tryd.sizeOf3 rfl rfl) (g1 rfl rfl rfl rfl) rfl rfl ?_
                    refine o_ld (hG 0 rfl) rfl (ev_ld1 (j := 70) rfl rfl Tryd.isAgg3 (MetaS.sub_Phase _) rfl) (g1 rfl rfl rfl rfl) rfl rfl ?_
                    refine o_pu rfl (ev_bin rfl rfl rfl rfl (eql_i _ 1)) (g1 rfl rfl rfl rfl) rfl rfl ?_
                    refine o_pu rfl (ev_move rfl rfl) (g1 rfl rfl rfl rfl) rfl rfl ?_
                    refine k_name 53 rfl ?_
                    intro b38 hb39
                    have H := bnd_eq H hb39
                    refine o_jb 58 [32, 33, 34] [1, 3, 5, 21, 24, 25, 26, 27, 28, 29, 30, 31, 38, 39, 43, 44, 45, 46, 47, 48, 49, 50, 51, 52, 53] H rfl ?_ ?_
                    · intro x41 H
                      refine o_pu rfl (ev_pick_f rfl rfl rfl) (g1 rfl rfl rfl rfl) rfl rfl ?_
                      exact k_wk (J36 x41 H) [59, 1, 3, 5, 21, 24, 25, 26, 27, 28, 29, 30, 31, 38, 39, 43, 44, 45, 46, 47, 48, 49] [] 0 [0] 0 rfl rfl rfl
                    · intro J40 H
                      cases b38 with
                      | true =>
                        rw [cond_true] at H
                        refine o_pu rfl (ev_fieldAddr rfl rfl Tryd.runUnderlying74 rfl Tryd.sizeOf3 rfl rfl) (g1 rfl rfl rfl rfl) rfl rfl ?_
                        refine o_ld (hG 0 rfl) rfl (ev_ld1 (j := 105) rfl rfl Tryd.isAgg3 (MetaS.sub_Got _) rfl) (g1 rfl rfl rfl rfl) rfl rfl ?_
                        refine o_pu rfl (ev_move rfl rfl) (g1 rfl rfl rfl rfl) rfl rfl ?_
                        refine o_pu rfl (ev_bin rfl rfl rfl rfl (lss_i _ _)) (g1 rfl rfl rfl rfl) rfl rfl ?_
                        refine o_pu rfl (ev_pick_t rfl rfl rfl) (g1 rfl rfl rfl rfl) rfl rfl ?_
                        exact k_wk (J40 (decide (a0_m.Got < r18)) H) [58, 1, 3, 5, 21, 24, 25, 26, 27, 28, 29, 30, 31, 38, 39, 43, 44, 45, 46, 47, 48, 49, 50, 51, 52, 53] [] 0 [0] 0 rfl rfl rfl
                      | false =>
                        rw [cond_false] at H
                        refine o_gnot rfl rfl rfl rfl rfl rfl rfl rfl ?_
                        refine o_gnot rfl rfl rfl rfl rfl rfl rfl rfl ?_
                        refine o_gnot rfl rfl rfl rfl rfl rfl rfl rfl ?_
                        refine o_gnot rfl rfl rfl rfl rfl rfl rfl rfl ?_
                        refine o_pu rfl (ev_pick_f rfl rfl rfl) (g1 rfl rfl rfl rfl) rfl rfl ?_
                        exact k_wk (J40 false H) [58, 1, 3, 5, 21, 24, 25, 26, 27, 28, 29, 30, 31, 38, 39, 43, 44, 45, 46, 47, 48, 49, 50, 51, 52, 53] [] 0 [0] 0 rfl rfl rfl
              | false =>
                rw [cond_false] at H
                refine o_gnot rfl rfl rfl rfl rfl rfl rfl rfl ?_
                refine o_gnot rfl rfl rfl rfl rfl rfl rfl rfl ?_
                refine o_gnot rfl rfl rfl rfl rfl rfl rfl rfl ?_
                refine o_gnot rfl rfl rfl rfl rfl rfl rfl rfl ?_
                refine o_gnot rfl rfl rfl rfl rfl rfl rfl rfl ?_
                refine o_gundef rfl rfl rfl rfl rfl rfl rfl ?_
                refine o_gundef rfl rfl rfl rfl rfl rfl rfl ?_
                refine o_gundef rfl rfl rfl rfl rfl rfl rfl ?_
                refine o_gundef rfl rfl rfl rfl rfl rfl rfl ?_
                refine o_gundef rfl rfl rfl rfl rfl rfl rfl ?_
                refine o_gundef rfl rfl rfl rfl rfl rfl rfl ?_
                refine o_gundef rfl rfl rfl rfl rfl rfl rfl ?_
                refine o_gundef rfl rfl rfl rfl rfl rfl rfl ?_
                refine o_gundef rfl rfl rfl rfl rfl rfl rfl ?_
                refine o_gnot rfl rfl rfl rfl rfl rfl rfl rfl ?_
                refine o_pu rfl (ev_pick_f rfl rfl rfl) (g0 rfl) rfl rfl ?_
                exact k_wk (J32 false H) [60, 1, 3, 5, 21, 24, 25, 26, 27, 28, 29, 30, 31, 38, 39, 43, 44] [] 0 [0] 0 rfl rfl rfl
          · intro J28 H
            cases b26 with
            | true =>
              rw [cond_true] at H
              refine o_pu rfl (ev_fieldAddr rfl rfl Tryd.runUnderlying74 rfl Tryd.sizeOf3 rfl rfl) (g1 rfl rfl rfl rfl) rfl rfl ?_
              refine o_ld (hG 0 rfl) rfl (ev_ld1 (j := 106) rfl rfl Tryd.isAgg3 (MetaS.sub_Trials _) rfl) (g1 rfl rfl rfl rfl) rfl rfl ?_
              refine o_pu rfl (ev_bin rfl rfl rfl rfl (eql_i _ 0)) (g1 rfl rfl rfl rfl) rfl rfl ?_
              refine o_pu rfl (ev_pick_t rfl rfl rfl) (g0 rfl) rfl rfl ?_
              exact k_wk (J28 (a0_m.Trials == 0) H) [43, 1, 3, 5, 21, 24, 25, 26, 27, 28, 29, 30, 31, 38, 39] [] 0 [0] 0 rfl rfl rfl
            | false =>
              rw [cond_false] at H
              refine o_gnot rfl rfl rfl rfl rfl rfl rfl rfl ?_
              refine o_gnot rfl rfl rfl rfl rfl rfl rfl rfl ?_
              refine o_gnot rfl rfl rfl rfl rfl rfl rfl rfl ?_
              refine o_pu rfl (ev_pick_f rfl rfl rfl) (g0 rfl) rfl rfl ?_
              exact k_wk (J28 false H) [43, 1, 3, 5, 21, 24, 25, 26, 27, 28, 29, 30, 31, 38, 39] [] 0 [0] 0 rfl rfl rfl
        · intro J24 H
          cases b22 with
          | true =>
            rw [cond_true] at H
            refine o_ld (hG 0 rfl) rfl (ev_ldN (j := 0) rfl rfl Tryd.isAgg74 (sz (MetaS.len _) Tryd.sizeOf74) (sub_all _) rfl) (g1 rfl rfl rfl rfl) rfl rfl ?_
            obtain ⟨r42, Hc43, H⟩ := bind_some' H
            refine oc (k_call (c_meta_Other a0_m r42 Hc43) Tryd.call36 rfl rfl rfl [] [] rfl rfl (g1 rfl rfl rfl rfl) rfl rfl ?_)
            rintro _ _ _ ⟨rfl, rfl, rfl⟩
            dsimp only [app]
            refine o_pu rfl (ev_fieldAddr rfl rfl Tryd.runUnderlying74 rfl Tryd.sizeOf72 rfl rfl) (g1 rfl rfl rfl rfl) rfl rfl ?_
            obtain ⟨hk44, H⟩ := chk_some H
            refine o_pu rfl (ev_idx_array rfl rfl rfl Tryd.runUnderlying72 Tryd.sizeOf71 hk44 rfl) (g1 rfl rfl rfl rfl) rfl rfl ?_
            refine o_ld (hG 0 rfl) rfl (ev_ldN rfl rfl Tryd.isAgg71 (sz (Img.len _) Tryd.sizeOf71) (sub_sub (MetaS.sub_Have _) (sub_arr Img.len Img.zero _ (k := r42) hk44 rfl) rfl) (by first | omega | (dsimp only; omega))) (g1 rfl rfl rfl rfl) rfl rfl ?_
            obtain ⟨r45, Hc46, H⟩ := bind_some' H
            refine oc (k_call (c_meta_none (at' Img.zero a0_m.Have.l r42) r45 Hc46) Tryd.call74 rfl rfl rfl [] [] rfl rfl (g1 rfl rfl rfl rfl) rfl rfl ?_)
            rintro _ _ _ ⟨rfl, rfl, rfl⟩
            dsimp only [app]
            refine o_pu rfl (ev_pick_t rfl rfl rfl) (g0 rfl) rfl rfl ?_
            exact k_wk (J24 r45 H) [38, 1, 3, 5, 21, 24, 25, 26, 27, 28, 29, 30, 31] [] 0 [0] 0 rfl rfl rfl
          | false =>
            rw [cond_false] at H
            refine o_gnot rfl rfl rfl rfl rfl rfl rfl rfl ?_
            refine o_gnot rfl rfl rfl rfl rfl rfl rfl rfl ?_
            refine o_gnot rfl rfl rfl rfl rfl rfl rfl rfl ?_
            refine o_gnot rfl rfl rfl rfl rfl rfl rfl rfl ?_
            refine o_gnot rfl rfl rfl rfl rfl rfl rfl rfl ?_
            refine o_gnot rfl rfl rfl rfl rfl rfl rfl rfl ?_
            refine o_pu rfl (ev_pick_f rfl rfl rfl) (g0 rfl) rfl rfl ?_
            exact k_wk (J24 false H) [38, 1, 3, 5, 21, 24, 25, 26, 27, 28, 29, 30, 31] [] 0 [0] 0 rfl rfl rfl
      · intro hb17
        have H := cnd_f H hb17
        refine s_seq ?_
        refine s_reg [0, 1] rfl ?_
        refine o_pu rfl (ev_bin rfl rfl rfl rfl (eql_i _ 3)) (g0 rfl) rfl rfl ?_
        refine o_pu rfl (ev_assign rfl rfl) (g0 rfl) rfl rfl ?_
        refine o_nil ?_
        refine q_then ?_
        refine s_cond rfl ?_ ?_
        · intro hb47
          have H := cnd_t H hb47
          refine s_seq ?_
          refine s_reg [0, 1, 2, 3, 4, 5, 6, 7, 8, 9, 10, 11, 12, 13, 14, 15, 16, 17] rfl ?_
          refine o_pu rfl (ev_fieldAddr rfl rfl Tryd.runUnderlying74 rfl Tryd.sizeOf71 rfl rfl) (g0 rfl) rfl rfl ?_
          refine o_ld (hG 0 rfl) rfl (ev_ldN (j := 71) rfl rfl Tryd.isAgg71 (sz (Img.len _) Tryd.sizeOf71) (MetaS.sub_Coming _) rfl) (g0 rfl) rfl rfl ?_
          obtain ⟨r48, Hc49, H⟩ := bind_some' H
          refine oc (k_call (c_meta_none a0_m.Coming r48 Hc49) Tryd.call74 rfl rfl rfl [] [] rfl rfl (g0 rfl) rfl rfl ?_)
          rintro _ _ _ ⟨rfl, rfl, rfl⟩
          dsimp only [app]
          refine o_pu rfl (ev_move rfl rfl) (g0 rfl) rfl rfl ?_
          refine k_name 66 rfl ?_
          intro b50 hb51
          have H := bnd_eq H hb51
          refine o_jb 70 [8, 9, 10, 11, 12, 13, 14, 15, 16, 17] [1, 5, 21, 61, 62, 63, 64, 65, 66] H rfl ?_ ?_
          · intro x53 H
            refine o_pu rfl (ev_move rfl rfl) (g0 rfl) rfl rfl ?_
            refine k_name 71 rfl ?_
            intro b54 hb55
            have H := bnd_eq H hb55
            refine o_jb 79 [17] [1, 5, 21, 61, 62, 63, 64, 65, 66, 70, 71] H rfl ?_ ?_
            · intro x57 H
              refine o_pu rfl (ev_assign rfl rfl) (g0 rfl) rfl rfl ?_
              refine o_nil ?_
              refine q_then ?_
              refine s_ret ?_
              refine q_block_r ?_
              refine q_then_r ?_
              cases H
              exact q_end (rs_1 Tryd.results75 (rv_tmp rfl)) ⟨rfl, rfl, rfl⟩ [] rfl 0 rfl [] rfl 1 rfl
            · intro J56 H
              cases b54 with
              | true =>
                rw [cond_true] at H
                refine o_ld (hG 0 rfl) rfl (ev_ldN (j := 0) rfl rfl Tryd.isAgg74 (sz (MetaS.len _) Tryd.sizeOf74) (sub_all _) rfl) (g1 rfl rfl rfl rfl) rfl rfl ?_
                obtain ⟨r58, Hc59, H⟩ := bind_some' H
                refine oc (k_call (c_meta_Other a0_m r58 Hc59) Tryd.call36 rfl rfl rfl [] [] rfl rfl (g1 rfl rfl rfl rfl) rfl rfl ?_)
                rintro _ _ _ ⟨rfl, rfl, rfl⟩
                dsimp only [app]
                refine o_pu rfl (ev_fieldAddr rfl rfl Tryd.runUnderlying74 rfl Tryd.sizeOf72 rfl rfl) (g1 rfl rfl rfl rfl) rfl rfl ?_
                obtain ⟨hk60, H⟩ := chk_some H
                refine o_pu rfl (ev_idx_array rfl rfl rfl Tryd.runUnderlying72 Tryd.sizeOf71 hk60 rfl) (g1 rfl rfl rfl rfl) rfl rfl ?_
                refine o_ld (hG 0 rfl) rfl (ev_ldN rfl rfl Tryd.isAgg71 (sz (Img.len _) Tryd.sizeOf71) (sub_sub (MetaS.sub_Have _) (sub_arr Img.len Img.zero _ (k := r58) hk60 rfl) rfl) (by first | omega | (dsimp only; omega))) (g1 rfl rfl rfl rfl) rfl rfl ?_
                obtain ⟨r61, Hc62, H⟩ := bind_some' H
                refine oc (k_call (c_meta_none (at' Img.zero a0_m.Have.l r58) r61 Hc62) Tryd.call74 rfl rfl rfl [] [] rfl rfl (g1 rfl rfl rfl rfl) rfl rfl ?_)
                rintro _ _ _ ⟨rfl, rfl, rfl⟩
                dsimp only [app]
                refine o_pu rfl (ev_not rfl rfl) (g1 rfl rfl rfl rfl) rfl rfl ?_
                refine o_pu rfl (ev_pick_t rfl rfl rfl) (g0 rfl) rfl rfl ?_
                exact k_wk (J56 (!r61) H) [79, 1, 5, 21, 61, 62, 63, 64, 65, 66, 70, 71] [] 0 [0] 0 rfl rfl rfl
              | false =>
                rw [cond_false] at H
                refine o_gnot rfl rfl rfl rfl rfl rfl rfl rfl ?_
                refine o_gnot rfl rfl rfl rfl rfl rfl rfl rfl ?_
                refine o_gnot rfl rfl rfl rfl rfl rfl rfl rfl ?_
                refine o_gnot rfl rfl rfl rfl rfl rfl rfl rfl ?_
                refine o_gnot rfl rfl rfl rfl rfl rfl rfl rfl ?_
                refine o_gnot rfl rfl rfl rfl rfl rfl rfl rfl ?_
                refine o_gnot rfl rfl rfl rfl rfl rfl rfl rfl ?_
                refine o_pu rfl (ev_pick_f rfl rfl rfl) (g0 rfl) rfl rfl ?_
                exact k_wk (J56 false H) [79, 1, 5, 21, 61, 62, 63, 64, 65, 66, 70, 71] [] 0 [0] 0 rfl rfl rfl
          · intro J52 H
            cases b50 with
            | true =>
              rw [cond_true] at H
              refine o_pu rfl (ev_fieldAddr rfl rfl Tryd.runUnderlying74 rfl Tryd.sizeOf3 rfl rfl) (g1 rfl rfl rfl rfl) rfl rfl ?_
              refine o_ld (hG 0 rfl) rfl (ev_ld1 (j := 105) rfl rfl Tryd.isAgg3 (MetaS.sub_Got _) rfl) (g1 rfl rfl rfl rfl) rfl rfl ?_
              refine o_pu rfl (ev_bin rfl rfl rfl rfl (eql_i _ 0)) (g1 rfl rfl rfl rfl) rfl rfl ?_
              refine o_pu rfl (ev_pick_t rfl rfl rfl) (g0 rfl) rfl rfl ?_
              exact k_wk (J52 (a0_m.Got == 0) H) [70, 1, 5, 21, 61, 62, 63, 64, 65, 66] [] 0 [0] 0 rfl rfl rfl
            | false =>
              rw [cond_false] at H
              refine o_gnot rfl rfl rfl rfl rfl rfl rfl rfl ?_
              refine o_gnot rfl rfl rfl rfl rfl rfl rfl rfl ?_
              refine o_gnot rfl rfl rfl rfl rfl rfl rfl rfl ?_
              refine o_pu rfl (ev_pick_f rfl rfl rfl) (g0 rfl) rfl rfl ?_
              exact k_wk (J52 false H) [70, 1, 5, 21, 61, 62, 63, 64, 65, 66] [] 0 [0] 0 rfl rfl rfl
        · intro hb47
          have H := cnd_f H hb47
          refine s_skip ?_
          refine q_block ?_
          refine q_then ?_
          refine s_seq ?_
          refine s_reg [0] rfl ?_
          refine o_pu rfl (ev_assign rfl rfl) (g0 rfl) rfl rfl ?_
          refine o_nil ?_
          refine q_then ?_
          refine s_ret ?_
          cases H
          exact q_end (rs_1 Tryd.results75 (rv_tmp rfl)) ⟨rfl, rfl, rfl⟩ [] rfl 0 rfl [] rfl 1 rfl
    · intro J14 H
      refine s_cond rfl ?_ ?_
      · intro hb63
        have H := cnd_t H hb63
        refine s_skip ?_
        exact k_wk (J14 (a0_m.Phase == 1) () H) [1, 5, 21] [] 0 [0] 0 rfl rfl rfl
      · intro hb63
        have H := cnd_f H hb63
        refine s_reg [0, 1] rfl ?_
        refine o_pu rfl (ev_bin rfl rfl rfl rfl (eql_i _ 2)) (g0 rfl) rfl rfl ?_
        refine o_pu rfl (ev_assign rfl rfl) (g0 rfl) rfl rfl ?_
        refine o_nil ?_
        exact k_wk (J14 (a0_m.Phase == 2) () H) [1, 5, 21] [] 0 [0] 0 rfl rfl rfl

def update_write (a0_m : MetaS) (a1_q : Req) (a2_f : FactS) : Option ChangeS :=
jn (fun (x9 : ChangeS) =>
some x9) fun J8 =>
(update_when (a0_m.Phase != 1) (11 : Int)).bind fun r11 =>
bnd (a1_q.N != a0_m.Got) fun b13 =>
bif b13 then (
(update_when (true : Bool) (12 : Int)).bind fun r15 =>
(update_Len a0_m.Coming.Size a0_m.Got).bind fun r17 =>
(update_when ((a1_q.Bytes.length : Int) != r17) (6 : Int)).bind fun r19 =>
(update_when a2_f.Worn (5 : Int)).bind fun r21 =>
(update_one ({ (a0_m : MetaS) with Got := (wrap64 (a0_m.Got + 1)) }) ([r11, r15, r19, r21] : List Int)).bind fun r24 =>
J8 r24) else (
(update_Chunks a0_m.Coming.Size).bind fun r26 =>
(update_when (decide (a0_m.Got ≥ r26)) (12 : Int)).bind fun r28 =>
(update_Len a0_m.Coming.Size a0_m.Got).bind fun r30 =>
(update_when ((a1_q.Bytes.length : Int) != r30) (6 : Int)).bind fun r32 =>
(update_when a2_f.Worn (5 : Int)).bind fun r34 =>
(update_one ({ (a0_m : MetaS) with Got := (wrap64 (a0_m.Got + 1)) }) ([r11, r28, r32, r34] : List Int)).bind fun r37 =>
J8 r37)

theorem c_update_write (a0_m : MetaS) (a1_q : Req) (A1 : Option Addr) (c2 : Nat) (a2_f : FactS) (r : ChangeS) (H : update_write a0_m a1_q a2_f = some r) : Fn Tryd.prog 77 [(.agg (MetaS.cells a0_m).toArray), (.agg ([vi a1_q.Kind, vi a1_q.N, .slice A1 a1_q.Bytes.length c2]).toArray), (.agg (FactS.cells a2_f).toArray)] [Sl E8 A1 c2 a1_q.Bytes] [] (fun v D' G' => v = (.agg (ChangeS.cells r).toArray) ∧ D' = [] ∧ G' = []) := by
  unfold update_write at H
  refine fn_of Tryd.func77 rfl Tryd.ntmps77 rfl ?_
  intro w0 D0 G0
  dsimp only [app, initEnv, Nat.zero_add, Nat.reduceAdd]
  refine s_seq ?_
  refine s_reg [0, 1, 2, 3] rfl ?_
  refine oc (k_box rfl rfl rfl (cs := MetaS.cells a0_m) rfl (g0 rfl) rfl rfl ?_)
  intro b3
  refine oc (k_box rfl rfl rfl (cs := [vi a1_q.Kind, vi a1_q.N, .slice A1 a1_q.Bytes.length c2]) rfl (g0 rfl) rfl rfl ?_)
  intro b4
  refine oc (k_box rfl rfl rfl (cs := FactS.cells a2_f) rfl (g0 rfl) rfl rfl ?_)
  intro b5
  refine oc (k_alloc rfl rfl Tryd.zeroValue109 (cs := ChangeS.cells ChangeS.zero) rfl (g0 rfl) rfl rfl ?_)
  intro b6
  refine o_nil ?_
  refine q_then ?_
  refine s_seq ?_
  refine s_reg [0, 1, 2] rfl ?_
  refine o_ld (hG 3 rfl) rfl (ev_ldN (j := 0) rfl rfl Tryd.isAgg74 (sz (MetaS.len _) Tryd.sizeOf74) (sub_all _) rfl) (g0 rfl) rfl rfl ?_
  refine oc (k_alloc rfl rfl Tryd.zeroValue74 (cs := MetaS.cells MetaS.zero) rfl (g0 rfl) rfl rfl ?_)
  intro b7
  refine oc (k_st (j := 0) rfl rfl rfl rfl (vs := MetaS.cells a0_m) rfl (sz (MetaS.len _) Tryd.sizeOf74) (MetaS.sc _) 0 rfl (spl_all ((MetaS.len _).trans (MetaS.len _).symm)) rfl (g0 rfl) rfl ?_)
  refine o_nil ?_
  refine q_then ?_
  refine s_seq ?_
  refine s_reg [0, 1, 2, 3, 4] rfl ?_
  refine o_pu rfl (ev_fieldAddr rfl rfl Tryd.runUnderlying74 rfl Tryd.sizeOf3 rfl rfl) (g0 rfl) rfl rfl ?_
  refine o_ld (hG 0 rfl) rfl (ev_ld1 (j := 105) rfl rfl Tryd.isAgg3 (MetaS.sub_Got _) rfl) (g0 rfl) rfl rfl ?_
  refine o_pu rfl (ev_bin rfl rfl rfl rfl (add_i _ 1)) (g0 rfl) rfl rfl ?_
  refine o_pu rfl (ev_fieldAddr rfl rfl Tryd.runUnderlying74 rfl Tryd.sizeOf3 rfl rfl) (g0 rfl) rfl rfl ?_
  refine oc (k_st (j := 105) rfl rfl rfl rfl (vs := [vi (wrap64 (a0_m.Got + 1))]) rfl (sz rfl Tryd.sizeOf3) rfl 0 rfl (MetaS.set_Got _ (wrap64 (a0_m.Got + 1))) rfl (g0 rfl) rfl ?_)
  refine o_nil ?_
  refine q_then ?_
  refine s_seq ?_
  refine q_join (fun (x9 : ChangeS) (y10 : Unit) => ⟨Sl E8 A1 c2 a1_q.Bytes :: D0, At b7 0 (MetaS.cells ({ (a0_m : MetaS) with Got := (wrap64 (a0_m.Got + 1)) })) :: At b6 0 (ChangeS.cells x9) :: At b5 0 (FactS.cells a2_f) :: At b4 0 [vi a1_q.Kind, vi a1_q.N, .slice A1 a1_q.Bytes.length c2] :: At b3 0 (MetaS.cells a0_m) :: G0, [(6, (.pointer (some ⟨b6, 0, none⟩)))]⟩) H ?_ ?_
  · intro x9 y10 H
    dsimp only
    refine q_then ?_
    refine s_ret ?_
    cases H
    exact q_end (rs_1 Tryd.results77 (rv_cell (j := 0) rfl (hG 1 rfl) Tryd.isAgg109 (sz (ChangeS.len _) Tryd.sizeOf109) (sub_all _) rfl)) ⟨rfl, rfl, rfl⟩ [] rfl 1 rfl [] rfl 5 rfl
  · intro J8 H
    refine s_draw mixed [(0, [35, 36], Has b7 0 (MetaS.cells ({ (a0_m : MetaS) with Got := (wrap64 (a0_m.Got + 1)) }))), (2, [36], Has b3 0 (MetaS.cells a0_m)), (6, [36], Has b4 0 [vi a1_q.Kind, vi a1_q.N, .slice A1 a1_q.Bytes.length c2]), (8, [36], Has b3 0 (MetaS.cells a0_m)), (12, [36], Has b3 0 (MetaS.cells a0_m)), (15, [36], Has b3 0 (MetaS.cells a0_m)), (21, [36], Has b4 0 [vi a1_q.Kind, vi a1_q.N, .slice A1 a1_q.Bytes.length c2]), (25, [28, 36], Has b3 0 (MetaS.cells a0_m)), (27, [28, 36], Has b3 0 (MetaS.cells a0_m)), (32, [33, 36], Has b5 0 (FactS.cells a2_f))] ?_
    refine a_ld 0 0 rfl rfl (ev_ldN (j := 0) rfl rfl Tryd.isAgg74 (sz (MetaS.len _) Tryd.sizeOf74) (sub_all _) rfl) (by kernel_rfl) (by rfl) (by kernel_rfl) (by kernel_rfl) (by kernel_rfl) (by kernel_rfl) (fun _ _ _ h => h) (g0 rfl) rfl rfl ?_
    refine a_pu 1 rfl (ev_fieldAddr rfl rfl Tryd.runUnderlying74 rfl Tryd.sizeOf3 rfl rfl) (by rfl) (by kernel_rfl) (by kernel_rfl) (by kernel_rfl) (fun _ _ _ h => h) (g0 rfl) rfl rfl ?_
    refine a_ld 2 1 rfl rfl (ev_ld1 (j := 70) rfl rfl Tryd.isAgg3 (MetaS.sub_Phase _) rfl) (by kernel_rfl) (by rfl) (by kernel_rfl) (by kernel_rfl) (by kernel_rfl) (by kernel_rfl) (fun _ _ _ h => h) (g0 rfl) rfl rfl ?_
    refine a_pu 3 rfl (ev_bin rfl rfl rfl rfl (neq_i _ 1)) (by rfl) (by kernel_rfl) (by kernel_rfl) (by kernel_rfl) (fun _ _ _ h => h) (g0 rfl) rfl rfl ?_
    refine a_pu 5 rfl (ev_fieldAddr rfl rfl Tryd.runUnderlying34 rfl Tryd.sizeOf3 rfl rfl) (by rfl) (by kernel_rfl) (by kernel_rfl) (by kernel_rfl) (fun _ _ _ h => h) (g0 rfl) rfl rfl ?_
    refine a_ld 6 2 rfl rfl (ev_ld1 (j := 1) rfl rfl Tryd.isAgg3 (sub_nth (j := 1) rfl) rfl) (by kernel_rfl) (by rfl) (by kernel_rfl) (by kernel_rfl) (by kernel_rfl) (by kernel_rfl) (fun _ _ _ h => h) (g0 rfl) rfl rfl ?_
    refine a_pu 7 rfl (ev_fieldAddr rfl rfl Tryd.runUnderlying74 rfl Tryd.sizeOf3 rfl rfl) (by rfl) (by kernel_rfl) (by kernel_rfl) (by kernel_rfl) (fun _ _ _ h => h) (g0 rfl) rfl rfl ?_
    refine a_ld 8 3 rfl rfl (ev_ld1 (j := 105) rfl rfl Tryd.isAgg3 (MetaS.sub_Got _) rfl) (by kernel_rfl) (by rfl) (by kernel_rfl) (by kernel_rfl) (by kernel_rfl) (by kernel_rfl) (fun _ _ _ h => h) (g0 rfl) rfl rfl ?_
    refine a_pu 9 rfl (ev_bin rfl rfl rfl rfl (neq_i _ _)) (by rfl) (by kernel_rfl) (by kernel_rfl) (by kernel_rfl) (fun _ _ _ h => h) (g0 rfl) rfl rfl ?_
    refine a_pu 20 rfl (ev_fieldAddr rfl rfl Tryd.runUnderlying34 rfl Tryd.sizeOf32 rfl rfl) (by rfl) (by kernel_rfl) (by kernel_rfl) (by kernel_rfl) (fun _ _ _ h => h) (g0 rfl) rfl rfl ?_
    refine a_ld 21 6 rfl rfl (ev_ld1 (j := 2) rfl rfl Tryd.isAgg32 (sub_nth (j := 2) rfl) rfl) (by kernel_rfl) (by rfl) (by kernel_rfl) (by kernel_rfl) (by kernel_rfl) (by kernel_rfl) (fun _ _ _ h => h) (g0 rfl) rfl rfl ?_
    refine a_pu 22 rfl (ev_len_slice rfl rfl Tryd.runUnderlying32) (by rfl) (by kernel_rfl) (by kernel_rfl) (by kernel_rfl) (fun _ _ _ h => h) (g0 rfl) rfl rfl ?_
    refine a_pu 23 rfl (ev_fieldAddr rfl rfl Tryd.runUnderlying74 rfl Tryd.sizeOf71 rfl rfl) (by rfl) (by kernel_rfl) (by kernel_rfl) (by kernel_rfl) (fun _ _ _ h => h) (g0 rfl) rfl rfl ?_
    refine a_pu 24 rfl (ev_fieldAddr rfl rfl Tryd.runUnderlying71 rfl Tryd.sizeOf3 rfl rfl) (by rfl) (by kernel_rfl) (by kernel_rfl) (by kernel_rfl) (fun _ _ _ h => h) (g0 rfl) rfl rfl ?_
    refine a_ld 25 7 rfl rfl (ev_ld1 (j := 72) rfl rfl Tryd.isAgg3 (sub_sub (MetaS.sub_Coming _) (Img.sub_Size _) rfl) rfl) (by kernel_rfl) (by rfl) (by kernel_rfl) (by kernel_rfl) (by kernel_rfl) (by kernel_rfl) (fun _ _ _ h => h) (g0 rfl) rfl rfl ?_
    refine a_pu 26 rfl (ev_fieldAddr rfl rfl Tryd.runUnderlying74 rfl Tryd.sizeOf3 rfl rfl) (by rfl) (by kernel_rfl) (by kernel_rfl) (by kernel_rfl) (fun _ _ _ h => h) (g0 rfl) rfl rfl ?_
    refine a_ld 27 8 rfl rfl (ev_ld1 (j := 105) rfl rfl Tryd.isAgg3 (MetaS.sub_Got _) rfl) (by kernel_rfl) (by rfl) (by kernel_rfl) (by kernel_rfl) (by kernel_rfl) (by kernel_rfl) (fun _ _ _ h => h) (g0 rfl) rfl rfl ?_
    refine a_pu 31 rfl (ev_fieldAddr rfl rfl Tryd.runUnderlying86 rfl Tryd.sizeOf4 rfl rfl) (by rfl) (by kernel_rfl) (by kernel_rfl) (by kernel_rfl) (fun _ _ _ h => h) (g0 rfl) rfl rfl ?_
    refine a_ld 32 9 rfl rfl (ev_ld1 (j := 34) rfl rfl Tryd.isAgg4 (FactS.sub_Worn _) rfl) (by kernel_rfl) (by rfl) (by kernel_rfl) (by kernel_rfl) (by kernel_rfl) (by kernel_rfl) (fun _ _ _ h => h) (g0 rfl) rfl rfl ?_
    refine ac 4 (by kernel_rfl) (sl_cons (hG 0 rfl) (sl_cons (hG 4 rfl) (sl_cons (hG 3 rfl) (sl_cons (hG 4 rfl) (sl_cons (hG 4 rfl) (sl_cons (hG 4 rfl) (sl_cons (hG 3 rfl) (sl_cons (hG 4 rfl) (sl_cons (hG 4 rfl) (sl_cons (hG 2 rfl) sl_nil)))))))))) ?_
    obtain ⟨r11, Hc12, H⟩ := bind_some' H
    refine k_call (c_update_when (a0_m.Phase != 1) 11 r11 Hc12) Tryd.call108 rfl rfl rfl [] [] rfl rfl (g0 rfl) rfl rfl ?_
    rintro _ _ _ ⟨rfl, rfl, rfl⟩
    dsimp only [app]
    refine a_pu 10 rfl (ev_move rfl rfl) (by rfl) (by kernel_rfl) (by kernel_rfl) (by kernel_rfl) (fun _ _ _ h => h) (g0 rfl) rfl rfl ?_
    refine k_name 23 rfl ?_
    intro b13 hb14
    have H := bnd_eq H hb14
    cases b13 with
    | true =>
      rw [cond_true] at H
      refine a_not 11 rfl (by rfl) (by kernel_rfl) (by kernel_rfl) (by kernel_rfl) (fun _ _ _ h => h) rfl rfl rfl rfl rfl rfl rfl ?_
      refine a_not 12 rfl (by rfl) (by kernel_rfl) (by kernel_rfl) (by kernel_rfl) (fun _ _ _ h => h) rfl rfl rfl rfl rfl rfl rfl ?_
      refine a_not 13 rfl (by rfl) (by kernel_rfl) (by kernel_rfl) (by kernel_rfl) (fun _ _ _ h => h) rfl rfl rfl rfl rfl rfl rfl ?_
      refine a_not 14 rfl (by rfl) (by kernel_rfl) (by kernel_rfl) (by kernel_rfl) (fun _ _ _ h => h) rfl rfl rfl rfl rfl rfl rfl ?_
      refine a_not 15 rfl (by rfl) (by kernel_rfl) (by kernel_rfl) (by kernel_rfl) (fun _ _ _ h => h) rfl rfl rfl rfl rfl rfl rfl ?_
      refine a_not 16 rfl (by rfl) (by kernel_rfl) (by kernel_rfl) (by kernel_rfl) (fun _ _ _ h => h) rfl rfl rfl rfl rfl rfl rfl ?_
      refine a_not 17 rfl (by rfl) (by kernel_rfl) (by kernel_rfl) (by kernel_rfl) (fun _ _ _ h => h) rfl rfl rfl rfl rfl rfl rfl ?_
      refine a_pu 18 rfl (ev_pick_t rfl rfl rfl) (by rfl) (by kernel_rfl) (by kernel_rfl) (by kernel_rfl) (fun _ _ _ h => h) (g0 rfl) rfl rfl ?_
      refine ac 19 (by kernel_rfl) (sl_cons (hG 0 rfl) (sl_cons (hG 4 rfl) (sl_cons (hG 3 rfl) (sl_cons (hG 4 rfl) (sl_cons (hG 4 rfl) (sl_cons (hG 4 rfl) (sl_cons (hG 3 rfl) (sl_cons (hG 4 rfl) (sl_cons (hG 4 rfl) (sl_cons (hG 2 rfl) sl_nil)))))))))) ?_
      obtain ⟨r15, Hc16, H⟩ := bind_some' H
      refine k_call (c_update_when true 12 r15 Hc16) Tryd.call108 rfl rfl rfl [] [] rfl rfl (g0 rfl) rfl rfl ?_
      rintro _ _ _ ⟨rfl, rfl, rfl⟩
      dsimp only [app]
      refine ac 28 (by kernel_rfl) (sl_cons (hG 0 rfl) (sl_cons (hG 4 rfl) (sl_cons (hG 3 rfl) (sl_cons (hG 4 rfl) (sl_cons (hG 4 rfl) (sl_cons (hG 4 rfl) (sl_cons (hG 3 rfl) (sl_cons (hG 4 rfl) (sl_cons (hG 4 rfl) (sl_cons (hG 2 rfl) sl_nil)))))))))) ?_
      obtain ⟨r17, Hc18, H⟩ := bind_some' H
      refine k_call (c_update_Len a0_m.Coming.Size a0_m.Got r17 Hc18) Tryd.call111 rfl rfl rfl [] [] rfl rfl (g0 rfl) rfl rfl ?_
      rintro _ _ _ ⟨rfl, rfl, rfl⟩
      dsimp only [app]
      refine a_pu 29 rfl (ev_bin rfl rfl rfl rfl (neq_i _ _)) (by rfl) (by kernel_rfl) (by kernel_rfl) (by kernel_rfl) (fun _ _ _ h => h) (g0 rfl) rfl rfl ?_
      refine ac 30 (by kernel_rfl) (sl_cons (hG 0 rfl) (sl_cons (hG 4 rfl) (sl_cons (hG 3 rfl) (sl_cons (hG 4 rfl) (sl_cons (hG 4 rfl) (sl_cons (hG 4 rfl) (sl_cons (hG 3 rfl) (sl_end (by kernel_rfl) (sl_end (by kernel_rfl) (sl_cons (hG 2 rfl) sl_nil)))))))))) ?_
      obtain ⟨r19, Hc20, H⟩ := bind_some' H
      refine k_call (c_update_when ((a1_q.Bytes.length : Int) != r17) 6 r19 Hc20) Tryd.call108 rfl rfl rfl [] [] rfl rfl (g0 rfl) rfl rfl ?_
      rintro _ _ _ ⟨rfl, rfl, rfl⟩
      dsimp only [app]
      refine ac 33 (by kernel_rfl) (sl_cons (hG 0 rfl) (sl_cons (hG 4 rfl) (sl_cons (hG 3 rfl) (sl_cons (hG 4 rfl) (sl_cons (hG 4 rfl) (sl_cons (hG 4 rfl) (sl_cons (hG 3 rfl) (sl_end (by kernel_rfl) (sl_end (by kernel_rfl) (sl_cons (hG 2 rfl) sl_nil)))))))))) ?_
      obtain ⟨r21, Hc22, H⟩ := bind_some' H
      refine k_call (c_update_when a2_f.Worn 5 r21 Hc22) Tryd.call108 rfl rfl rfl [] [] rfl rfl (g0 rfl) rfl rfl ?_
      rintro _ _ _ ⟨rfl, rfl, rfl⟩
      dsimp only [app]
      refine ac 34 (by kernel_rfl) (sl_cons (hG 0 rfl) (sl_cons (hG 4 rfl) (sl_cons (hG 3 rfl) (sl_cons (hG 4 rfl) (sl_cons (hG 4 rfl) (sl_cons (hG 4 rfl) (sl_cons (hG 3 rfl) (sl_end (by kernel_rfl) (sl_end (by kernel_rfl) (sl_end (by kernel_rfl) sl_nil)))))))))) ?_
      refine k_buildSlice (f := Ei) ([r11, r15, r19, r21] : List Int) rfl rfl rfl rfl Tryd.runUnderlying176 Tryd.sizeOf24 Tryd.zeroValue24 rfl rfl (fill_all rfl rfl (by simp) rfl rfl) (g0 rfl) rfl rfl ?_
      intro b23
      refine ac 35 (by kernel_rfl) (sl_cons (hG 0 rfl) (sl_cons (hG 4 rfl) (sl_cons (hG 3 rfl) (sl_cons (hG 4 rfl) (sl_cons (hG 4 rfl) (sl_cons (hG 4 rfl) (sl_cons (hG 3 rfl) (sl_end (by kernel_rfl) (sl_end (by kernel_rfl) (sl_end (by kernel_rfl) sl_nil)))))))))) ?_
      obtain ⟨r24, Hc25, H⟩ := bind_some' H
      refine k_call (c_update_one ({ (a0_m : MetaS) with Got := (wrap64 (a0_m.Got + 1)) }) ([r11, r15, r19, r21] : List Int) (some ⟨b23, 0, none⟩) 4 r24 Hc25) Tryd.call107 rfl rfl rfl [0] [] rfl rfl (g0 rfl) rfl rfl ?_
      rintro _ _ _ ⟨rfl, rfl, rfl⟩
      dsimp only [app]
      refine ac 36 (by kernel_rfl) (sl_end (by kernel_rfl) (sl_cons (hG 4 rfl) (sl_cons (hG 3 rfl) (sl_cons (hG 4 rfl) (sl_cons (hG 4 rfl) (sl_cons (hG 4 rfl) (sl_cons (hG 3 rfl) (sl_end (by kernel_rfl) (sl_end (by kernel_rfl) (sl_end (by kernel_rfl) sl_nil)))))))))) ?_
      refine k_st (j := 0) rfl rfl rfl rfl (vs := ChangeS.cells r24) rfl (sz (ChangeS.len _) Tryd.sizeOf109) (ChangeS.sc _) 1 rfl (spl_all ((ChangeS.len _).trans (ChangeS.len _).symm)) rfl (g0 rfl) rfl ?_
      refine a_done (by kernel_rfl) (sl_end (by kernel_rfl) (sl_end (by kernel_rfl) (sl_end (by kernel_rfl) (sl_end (by kernel_rfl) (sl_end (by kernel_rfl) (sl_end (by kernel_rfl) (sl_end (by kernel_rfl) (sl_end (by kernel_rfl) (sl_end (by kernel_rfl) (sl_end (by kernel_rfl) sl_nil)))))))))) ?_
      exact k_wk (J8 r24 () H) [6] [1] 2 [0, 0, 0, 0, 0] 0 rfl rfl rfl
    | false =>
      rw [cond_false] at H
      refine a_pu 11 rfl (ev_fieldAddr rfl rfl Tryd.runUnderlying74 rfl Tryd.sizeOf3 rfl rfl) (by rfl) (by kernel_rfl) (by kernel_rfl) (by kernel_rfl) (fun _ _ _ h => h) (g1 rfl rfl rfl rfl) rfl rfl ?_
      refine a_ld 12 4 rfl rfl (ev_ld1 (j := 105) rfl rfl Tryd.isAgg3 (MetaS.sub_Got _) rfl) (by kernel_rfl) (by rfl) (by kernel_rfl) (by kernel_rfl) (by kernel_rfl) (by kernel_rfl) (fun _ _ _ h => h) (g1 rfl rfl rfl rfl) rfl rfl ?_
      refine a_pu 13 rfl (ev_fieldAddr rfl rfl Tryd.runUnderlying74 rfl Tryd.sizeOf71 rfl rfl) (by rfl) (by kernel_rfl) (by kernel_rfl) (by kernel_rfl) (fun _ _ _ h => h) (g1 rfl rfl rfl rfl) rfl rfl ?_
      refine a_pu 14 rfl (ev_fieldAddr rfl rfl Tryd.runUnderlying71 rfl Tryd.sizeOf3 rfl rfl) (by rfl) (by kernel_rfl) (by kernel_rfl) (by kernel_rfl) (fun _ _ _ h => h) (g1 rfl rfl rfl rfl) rfl rfl ?_
      refine a_ld 15 5 rfl rfl (ev_ld1 (j := 72) rfl rfl Tryd.isAgg3 (sub_sub (MetaS.sub_Coming _) (Img.sub_Size _) rfl) rfl) (by kernel_rfl) (by rfl) (by kernel_rfl) (by kernel_rfl) (by kernel_rfl) (by kernel_rfl) (fun _ _ _ h => h) (g1 rfl rfl rfl rfl) rfl rfl ?_
      refine ac 16 (by kernel_rfl) (sl_cons (hG 0 rfl) (sl_cons (hG 4 rfl) (sl_cons (hG 3 rfl) (sl_cons (hG 4 rfl) (sl_cons (hG 4 rfl) (sl_cons (hG 4 rfl) (sl_cons (hG 3 rfl) (sl_cons (hG 4 rfl) (sl_cons (hG 4 rfl) (sl_cons (hG 2 rfl) sl_nil)))))))))) ?_
      obtain ⟨r26, Hc27, H⟩ := bind_some' H
      refine k_call (c_update_Chunks a0_m.Coming.Size r26 Hc27) Tryd.call110 rfl rfl rfl [] [] rfl rfl (g1 rfl rfl rfl rfl) rfl rfl ?_
      rintro _ _ _ ⟨rfl, rfl, rfl⟩
      dsimp only [app]
      refine a_pu 17 rfl (ev_bin rfl rfl rfl rfl (geq_i _ _)) (by rfl) (by kernel_rfl) (by kernel_rfl) (by kernel_rfl) (fun _ _ _ h => h) (g1 rfl rfl rfl rfl) rfl rfl ?_
      refine a_pu 18 rfl (ev_pick_f rfl rfl rfl) (by rfl) (by kernel_rfl) (by kernel_rfl) (by kernel_rfl) (fun _ _ _ h => h) (g0 rfl) rfl rfl ?_
      refine ac 19 (by kernel_rfl) (sl_cons (hG 0 rfl) (sl_cons (hG 4 rfl) (sl_cons (hG 3 rfl) (sl_cons (hG 4 rfl) (sl_cons (hG 4 rfl) (sl_cons (hG 4 rfl) (sl_cons (hG 3 rfl) (sl_cons (hG 4 rfl) (sl_cons (hG 4 rfl) (sl_cons (hG 2 rfl) sl_nil)))))))))) ?_
      obtain ⟨r28, Hc29, H⟩ := bind_some' H
      refine k_call (c_update_when (decide (a0_m.Got ≥ r26)) 12 r28 Hc29) Tryd.call108 rfl rfl rfl [] [] rfl rfl (g0 rfl) rfl rfl ?_
      rintro _ _ _ ⟨rfl, rfl, rfl⟩
      dsimp only [app]
      refine ac 28 (by kernel_rfl) (sl_cons (hG 0 rfl) (sl_cons (hG 4 rfl) (sl_cons (hG 3 rfl) (sl_cons (hG 4 rfl) (sl_cons (hG 4 rfl) (sl_cons (hG 4 rfl) (sl_cons (hG 3 rfl) (sl_cons (hG 4 rfl) (sl_cons (hG 4 rfl) (sl_cons (hG 2 rfl) sl_nil)))))))))) ?_
      obtain ⟨r30, Hc31, H⟩ := bind_some' H
      refine k_call (c_update_Len a0_m.Coming.Size a0_m.Got r30 Hc31) Tryd.call111 rfl rfl rfl [] [] rfl rfl (g0 rfl) rfl rfl ?_
      rintro _ _ _ ⟨rfl, rfl, rfl⟩
      dsimp only [app]
      refine a_pu 29 rfl (ev_bin rfl rfl rfl rfl (neq_i _ _)) (by rfl) (by kernel_rfl) (by kernel_rfl) (by kernel_rfl) (fun _ _ _ h => h) (g0 rfl) rfl rfl ?_
      refine ac 30 (by kernel_rfl) (sl_cons (hG 0 rfl) (sl_cons (hG 4 rfl) (sl_cons (hG 3 rfl) (sl_cons (hG 4 rfl) (sl_cons (hG 4 rfl) (sl_cons (hG 4 rfl) (sl_cons (hG 3 rfl) (sl_end (by kernel_rfl) (sl_end (by kernel_rfl) (sl_cons (hG 2 rfl) sl_nil)))))))))) ?_
      obtain ⟨r32, Hc33, H⟩ := bind_some' H
      refine k_call (c_update_when ((a1_q.Bytes.length : Int) != r30) 6 r32 Hc33) Tryd.call108 rfl rfl rfl [] [] rfl rfl (g0 rfl) rfl rfl ?_
      rintro _ _ _ ⟨rfl, rfl, rfl⟩
      dsimp only [app]
      refine ac 33 (by kernel_rfl) (sl_cons (hG 0 rfl) (sl_cons (hG 4 rfl) (sl_cons (hG 3 rfl) (sl_cons (hG 4 rfl) (sl_cons (hG 4 rfl) (sl_cons (hG 4 rfl) (sl_cons (hG 3 rfl) (sl_end (by kernel_rfl) (sl_end (by kernel_rfl) (sl_cons (hG 2 rfl) sl_nil)))))))))) ?_
      obtain ⟨r34, Hc35, H⟩ := bind_some' H
      refine k_call (c_update_when a2_f.Worn 5 r34 Hc35) Tryd.call108 rfl rfl rfl [] [] rfl rfl (g0 rfl) rfl rfl ?_
      rintro _ _ _ ⟨rfl, rfl, rfl⟩
      dsimp only [app]
      refine ac 34 (by kernel_rfl) (sl_cons (hG 0 rfl) (sl_cons (hG 4 rfl) (sl_cons (hG 3 rfl) (sl_cons (hG 4 rfl) (sl_cons (hG 4 rfl) (sl_cons (hG 4 rfl) (sl_cons (hG 3 rfl) (sl_end (by kernel_rfl) (sl_end (by kernel_rfl) (sl_end (by kernel_rfl) sl_nil)))))))))) ?_
      refine k_buildSlice (f := Ei) ([r11, r28, r32, r34] : List Int) rfl rfl rfl rfl Tryd.runUnderlying176 Tryd.sizeOf24 Tryd.zeroValue24 rfl rfl (fill_all rfl rfl (by simp) rfl rfl) (g0 rfl) rfl rfl ?_
      intro b36
      refine ac 35 (by kernel_rfl) (sl_cons (hG 0 rfl) (sl_cons (hG 4 rfl) (sl_cons (hG 3 rfl) (sl_cons (hG 4 rfl) (sl_cons (hG 4 rfl) (sl_cons (hG 4 rfl) (sl_cons (hG 3 rfl) (sl_end (by kernel_rfl) (sl_end (by kernel_rfl) (sl_end (by kernel_rfl) sl_nil)))))))))) ?_
      obtain ⟨r37, Hc38, H⟩ := bind_some' H
      refine k_call (c_update_one ({ (a0_m : MetaS) with Got := (wrap64 (a0_m.Got + 1)) }) ([r11, r28, r32, r34] : List Int) (some ⟨b36, 0, none⟩) 4 r37 Hc38) Tryd.call107 rfl rfl rfl [0] [] rfl rfl (g0 rfl) rfl rfl ?_
      rintro _ _ _ ⟨rfl, rfl, rfl⟩
      dsimp only [app]
      refine ac 36 (by kernel_rfl) (sl_end (by kernel_rfl) (sl_cons (hG 4 rfl) (sl_cons (hG 3 rfl) (sl_cons (hG 4 rfl) (sl_cons (hG 4 rfl) (sl_cons (hG 4 rfl) (sl_cons (hG 3 rfl) (sl_end (by kernel_rfl) (sl_end (by kernel_rfl) (sl_end (by kernel_rfl) sl_nil)))))))))) ?_
      refine k_st (j := 0) rfl rfl rfl rfl (vs := ChangeS.cells r37) rfl (sz (ChangeS.len _) Tryd.sizeOf109) (ChangeS.sc _) 1 rfl (spl_all ((ChangeS.len _).trans (ChangeS.len _).symm)) rfl (g0 rfl) rfl ?_
      refine a_done (by kernel_rfl) (sl_end (by kernel_rfl) (sl_end (by kernel_rfl) (sl_end (by kernel_rfl) (sl_end (by kernel_rfl) (sl_end (by kernel_rfl) (sl_end (by kernel_rfl) (sl_end (by kernel_rfl) (sl_end (by kernel_rfl) (sl_end (by kernel_rfl) (sl_end (by kernel_rfl) sl_nil)))))))))) ?_
      exact k_wk (J8 r37 () H) [6] [1] 2 [0, 0, 0, 0, 0] 0 rfl rfl rfl

def update_commit (a0_m : MetaS) (a1_f : FactS) : Option ChangeS :=
(update_idle a0_m).bind fun r4 =>
(meta_Other a0_m).bind fun r7 =>
chk (0 ≤ r7 ∧ r7 < 2) <|
bnd ({ ({ ({ (r4 : MetaS) with Phase := 3 } : MetaS) with Trials := 2 } : MetaS) with Have := (Arr.set (({ ({ (r4 : MetaS) with Phase := 3 } : MetaS) with Trials := 2 }).Have) r7 a0_m.Coming) }) fun x10 =>
(update_when (a0_m.Phase != 2) (11 : Int)).bind fun r12 =>
(update_when a1_f.Worn (5 : Int)).bind fun r14 =>
(update_one x10 ([r12, r14] : List Int)).bind fun r17 =>
some r17

theorem c_update_commit (a0_m : MetaS) (a1_f : FactS) (r : ChangeS) (H : update_commit a0_m a1_f = some r) : Fn Tryd.prog 79 [(.agg (MetaS.cells a0_m).toArray), (.agg (FactS.cells a1_f).toArray)] [] [] (fun v D' G' => v = (.agg (ChangeS.cells r).toArray) ∧ D' = [] ∧ G' = []) := by
  unfold update_commit at H
  refine fn_of Tryd.func79 rfl Tryd.ntmps79 rfl ?_
  intro w0 D0 G0
  dsimp only [app, initEnv, Nat.zero_add, Nat.reduceAdd]
  refine s_seq ?_
  refine s_reg [0, 1, 2] rfl ?_
  refine oc (k_box rfl rfl rfl (cs := MetaS.cells a0_m) rfl (g0 rfl) rfl rfl ?_)
  intro b1
  refine oc (k_box rfl rfl rfl (cs := FactS.cells a1_f) rfl (g0 rfl) rfl rfl ?_)
  intro b2
  refine oc (k_alloc rfl rfl Tryd.zeroValue109 (cs := ChangeS.cells ChangeS.zero) rfl (g0 rfl) rfl rfl ?_)
  intro b3
  refine o_nil ?_
  refine q_then ?_
  refine s_seq ?_
  refine s_reg [0, 1, 2, 3] rfl ?_
  refine o_ld (hG 2 rfl) rfl (ev_ldN (j := 0) rfl rfl Tryd.isAgg74 (sz (MetaS.len _) Tryd.sizeOf74) (sub_all _) rfl) (g0 rfl) rfl rfl ?_
  obtain ⟨r4, Hc5, H⟩ := bind_some' H
  refine oc (k_call (c_update_idle a0_m r4 Hc5) Tryd.call112 rfl rfl rfl [] [] rfl rfl (g0 rfl) rfl rfl ?_)
  rintro _ _ _ ⟨rfl, rfl, rfl⟩
  dsimp only [app]
  refine oc (k_alloc rfl rfl Tryd.zeroValue74 (cs := MetaS.cells MetaS.zero) rfl (g0 rfl) rfl rfl ?_)
  intro b6
  refine oc (k_st (j := 0) rfl rfl rfl rfl (vs := MetaS.cells r4) rfl (sz (MetaS.len _) Tryd.sizeOf74) (MetaS.sc _) 0 rfl (spl_all ((MetaS.len _).trans (MetaS.len _).symm)) rfl (g0 rfl) rfl ?_)
  refine o_nil ?_
  refine q_then ?_
  refine s_seq ?_
  refine s_reg [0, 1, 2, 3] rfl ?_
  refine o_pu rfl (ev_fieldAddr rfl rfl Tryd.runUnderlying74 rfl Tryd.sizeOf3 rfl rfl) (g0 rfl) rfl rfl ?_
  refine oc (k_st (j := 70) rfl rfl rfl rfl (vs := [vi 3]) rfl (sz rfl Tryd.sizeOf3) rfl 0 rfl (MetaS.set_Phase _ 3) rfl (g0 rfl) rfl ?_)
  refine o_pu rfl (ev_fieldAddr rfl rfl Tryd.runUnderlying74 rfl Tryd.sizeOf3 rfl rfl) (g0 rfl) rfl rfl ?_
  refine oc (k_st (j := 106) rfl rfl rfl rfl (vs := [vi 2]) rfl (sz rfl Tryd.sizeOf3) rfl 0 rfl (MetaS.set_Trials _ 2) rfl (g0 rfl) rfl ?_)
  refine o_nil ?_
  refine q_then ?_
  refine s_seq ?_
  refine s_draw mixed [(0, [1, 6], Has b1 0 (MetaS.cells a0_m)), (3, [6], Has b1 0 (MetaS.cells a0_m))] ?_
  refine a_ld 0 0 rfl rfl (ev_ldN (j := 0) rfl rfl Tryd.isAgg74 (sz (MetaS.len _) Tryd.sizeOf74) (sub_all _) rfl) (by kernel_rfl) (by rfl) (by kernel_rfl) (by kernel_rfl) (by kernel_rfl) (by kernel_rfl) (fun _ _ _ h => h) (g0 rfl) rfl rfl ?_
  refine a_pu 2 rfl (ev_fieldAddr rfl rfl Tryd.runUnderlying74 rfl Tryd.sizeOf71 rfl rfl) (by rfl) (by kernel_rfl) (by kernel_rfl) (by kernel_rfl) (fun _ _ _ h => h) (g0 rfl) rfl rfl ?_
  refine a_ld 3 1 rfl rfl (ev_ldN (j := 71) rfl rfl Tryd.isAgg71 (sz (Img.len _) Tryd.sizeOf71) (MetaS.sub_Coming _) rfl) (by kernel_rfl) (by rfl) (by kernel_rfl) (by kernel_rfl) (by kernel_rfl) (by kernel_rfl) (fun _ _ _ h => h) (g0 rfl) rfl rfl ?_
  refine a_pu 4 rfl (ev_fieldAddr rfl rfl Tryd.runUnderlying74 rfl Tryd.sizeOf72 rfl rfl) (by rfl) (by kernel_rfl) (by kernel_rfl) (by kernel_rfl) (fun _ _ _ h => h) (g0 rfl) rfl rfl ?_
  refine ac 1 (by kernel_rfl) (sl_cons (hG 3 rfl) (sl_cons (hG 3 rfl) sl_nil)) ?_
  obtain ⟨r7, Hc8, H⟩ := bind_some' H
  refine k_call (c_meta_Other a0_m r7 Hc8) Tryd.call36 rfl rfl rfl [] [] rfl rfl (g0 rfl) rfl rfl ?_
  rintro _ _ _ ⟨rfl, rfl, rfl⟩
  dsimp only [app]
  obtain ⟨hk9, H⟩ := chk_some H
  refine a_pu 5 rfl (ev_idx_array rfl rfl rfl Tryd.runUnderlying72 Tryd.sizeOf71 hk9 rfl) (by rfl) (by kernel_rfl) (by kernel_rfl) (by kernel_rfl) (fun _ _ _ h => h) (g0 rfl) rfl rfl ?_
  refine ac 6 (by kernel_rfl) (sl_end (by kernel_rfl) (sl_cons (hG 3 rfl) sl_nil)) ?_
  refine k_st rfl rfl rfl rfl (vs := Img.cells a0_m.Coming) rfl (sz (Img.len _) Tryd.sizeOf71) (Img.sc _) 0 rfl (spl_in (MetaS.sub_Have _) (spl_arr Img.len _ (k := r7) _ hk9 rfl) (MetaS.set_Have _ (Arr.set (({ ({ (r4 : MetaS) with Phase := 3 } : MetaS) with Trials := 2 }).Have) r7 a0_m.Coming)) rfl) (by first | omega | (dsimp only; omega)) (g0 rfl) rfl ?_
  obtain ⟨x10, hx11⟩ : ∃ x, x = ({ ({ ({ (r4 : MetaS) with Phase := 3 } : MetaS) with Trials := 2 } : MetaS) with Have := (Arr.set (({ ({ (r4 : MetaS) with Phase := 3 } : MetaS) with Trials := 2 }).Have) r7 a0_m.Coming) }) := ⟨_, rfl⟩
  have H := bnd_eq H hx11
  refine k_tok 0 (A' := At b6 0 (MetaS.cells x10)) rfl (by rw [hx11]) ?_
  refine a_done (by kernel_rfl) (sl_end (by kernel_rfl) (sl_end (by kernel_rfl) sl_nil)) ?_
  refine q_then ?_
  refine s_seq ?_
  refine s_draw mixed [(0, [9, 10], Has b6 0 (MetaS.cells x10)), (2, [10], Has b1 0 (MetaS.cells a0_m)), (6, [7, 10], Has b2 0 (FactS.cells a1_f))] ?_
  refine a_ld 0 0 rfl rfl (ev_ldN (j := 0) rfl rfl Tryd.isAgg74 (sz (MetaS.len _) Tryd.sizeOf74) (sub_all _) rfl) (by kernel_rfl) (by rfl) (by kernel_rfl) (by kernel_rfl) (by kernel_rfl) (by kernel_rfl) (fun _ _ _ h => h) (g0 rfl) rfl rfl ?_
  refine a_pu 1 rfl (ev_fieldAddr rfl rfl Tryd.runUnderlying74 rfl Tryd.sizeOf3 rfl rfl) (by rfl) (by kernel_rfl) (by kernel_rfl) (by kernel_rfl) (fun _ _ _ h => h) (g0 rfl) rfl rfl ?_
  refine a_ld 2 1 rfl rfl (ev_ld1 (j := 70) rfl rfl Tryd.isAgg3 (MetaS.sub_Phase _) rfl) (by kernel_rfl) (by rfl) (by kernel_rfl) (by kernel_rfl) (by kernel_rfl) (by kernel_rfl) (fun _ _ _ h => h) (g0 rfl) rfl rfl ?_
  refine a_pu 3 rfl (ev_bin rfl rfl rfl rfl (neq_i _ 2)) (by rfl) (by kernel_rfl) (by kernel_rfl) (by kernel_rfl) (fun _ _ _ h => h) (g0 rfl) rfl rfl ?_
  refine a_pu 5 rfl (ev_fieldAddr rfl rfl Tryd.runUnderlying86 rfl Tryd.sizeOf4 rfl rfl) (by rfl) (by kernel_rfl) (by kernel_rfl) (by kernel_rfl) (fun _ _ _ h => h) (g0 rfl) rfl rfl ?_
  refine a_ld 6 2 rfl rfl (ev_ld1 (j := 34) rfl rfl Tryd.isAgg4 (FactS.sub_Worn _) rfl) (by kernel_rfl) (by rfl) (by kernel_rfl) (by kernel_rfl) (by kernel_rfl) (by kernel_rfl) (fun _ _ _ h => h) (g0 rfl) rfl rfl ?_
  refine ac 4 (by kernel_rfl) (sl_cons (hG 0 rfl) (sl_cons (hG 3 rfl) (sl_cons (hG 2 rfl) sl_nil))) ?_
  obtain ⟨r12, Hc13, H⟩ := bind_some' H
  refine k_call (c_update_when (a0_m.Phase != 2) 11 r12 Hc13) Tryd.call108 rfl rfl rfl [] [] rfl rfl (g0 rfl) rfl rfl ?_
  rintro _ _ _ ⟨rfl, rfl, rfl⟩
  dsimp only [app]
  refine ac 7 (by kernel_rfl) (sl_cons (hG 0 rfl) (sl_cons (hG 3 rfl) (sl_cons (hG 2 rfl) sl_nil))) ?_
  obtain ⟨r14, Hc15, H⟩ := bind_some' H
  refine k_call (c_update_when a1_f.Worn 5 r14 Hc15) Tryd.call108 rfl rfl rfl [] [] rfl rfl (g0 rfl) rfl rfl ?_
  rintro _ _ _ ⟨rfl, rfl, rfl⟩
  dsimp only [app]
  refine ac 8 (by kernel_rfl) (sl_cons (hG 0 rfl) (sl_cons (hG 3 rfl) (sl_end (by kernel_rfl) sl_nil))) ?_
  refine k_buildSlice (f := Ei) ([r12, r14] : List Int) rfl rfl rfl rfl Tryd.runUnderlying176 Tryd.sizeOf24 Tryd.zeroValue24 rfl rfl (fill_all rfl rfl (by simp) rfl rfl) (g0 rfl) rfl rfl ?_
  intro b16
  refine ac 9 (by kernel_rfl) (sl_cons (hG 0 rfl) (sl_cons (hG 3 rfl) (sl_end (by kernel_rfl) sl_nil))) ?_
  obtain ⟨r17, Hc18, H⟩ := bind_some' H
  refine k_call (c_update_one x10 ([r12, r14] : List Int) (some ⟨b16, 0, none⟩) 2 r17 Hc18) Tryd.call107 rfl rfl rfl [0] [] rfl rfl (g0 rfl) rfl rfl ?_
  rintro _ _ _ ⟨rfl, rfl, rfl⟩
  dsimp only [app]
  refine ac 10 (by kernel_rfl) (sl_end (by kernel_rfl) (sl_cons (hG 3 rfl) (sl_end (by kernel_rfl) sl_nil))) ?_
  refine k_st (j := 0) rfl rfl rfl rfl (vs := ChangeS.cells r17) rfl (sz (ChangeS.len _) Tryd.sizeOf109) (ChangeS.sc _) 1 rfl (spl_all ((ChangeS.len _).trans (ChangeS.len _).symm)) rfl (g0 rfl) rfl ?_
  refine a_done (by kernel_rfl) (sl_end (by kernel_rfl) (sl_end (by kernel_rfl) (sl_end (by kernel_rfl) sl_nil))) ?_
  refine q_then ?_
  refine s_ret ?_
  cases H
  exact q_end (rs_1 Tryd.results79 (rv_cell (j := 0) rfl (hG 1 rfl) Tryd.isAgg109 (sz (ChangeS.len _) Tryd.sizeOf109) (sub_all _) rfl)) ⟨rfl, rfl, rfl⟩ [] rfl 1 rfl [] rfl 4 rfl

def update_rollback (a0_m : MetaS) (a1_f : FactS) : Option ChangeS :=
(update_idle a0_m).bind fun r4 =>
(update_alone r4).bind fun r6 =>
(update_when (a0_m.Phase != 3) (11 : Int)).bind fun r8 =>
(update_when a1_f.Worn (5 : Int)).bind fun r10 =>
(update_one r6 ([r8, r10] : List Int)).bind fun r13 =>
some r13

theorem c_update_rollback (a0_m : MetaS) (a1_f : FactS) (r : ChangeS) (H : update_rollback a0_m a1_f = some r) : Fn Tryd.prog 82 [(.agg (MetaS.cells a0_m).toArray), (.agg (FactS.cells a1_f).toArray)] [] [] (fun v D' G' => v = (.agg (ChangeS.cells r).toArray) ∧ D' = [] ∧ G' = []) := by
  unfold update_rollback at H
  refine fn_of Tryd.func82 rfl Tryd.ntmps82 rfl ?_
  intro w0 D0 G0
  dsimp only [app, initEnv, Nat.zero_add, Nat.reduceAdd]
  refine s_seq ?_
  refine s_reg [0, 1, 2] rfl ?_
  refine oc (k_box rfl rfl rfl (cs := MetaS.cells a0_m) rfl (g0 rfl) rfl rfl ?_)
  intro b1
  refine oc (k_box rfl rfl rfl (cs := FactS.cells a1_f) rfl (g0 rfl) rfl rfl ?_)
  intro b2
  refine oc (k_alloc rfl rfl Tryd.zeroValue109 (cs := ChangeS.cells ChangeS.zero) rfl (g0 rfl) rfl rfl ?_)
  intro b3
  refine o_nil ?_
  refine q_then ?_
  refine s_seq ?_
  refine s_draw mixed [(0, [1, 12], Has b1 0 (MetaS.cells a0_m)), (4, [12], Has b1 0 (MetaS.cells a0_m)), (8, [9, 12], Has b2 0 (FactS.cells a1_f))] ?_
  refine a_ld 0 0 rfl rfl (ev_ldN (j := 0) rfl rfl Tryd.isAgg74 (sz (MetaS.len _) Tryd.sizeOf74) (sub_all _) rfl) (by kernel_rfl) (by rfl) (by kernel_rfl) (by kernel_rfl) (by kernel_rfl) (by kernel_rfl) (fun _ _ _ h => h) (g0 rfl) rfl rfl ?_
  refine a_pu 3 rfl (ev_fieldAddr rfl rfl Tryd.runUnderlying74 rfl Tryd.sizeOf3 rfl rfl) (by rfl) (by kernel_rfl) (by kernel_rfl) (by kernel_rfl) (fun _ _ _ h => h) (g0 rfl) rfl rfl ?_
  refine a_ld 4 1 rfl rfl (ev_ld1 (j := 70) rfl rfl Tryd.isAgg3 (MetaS.sub_Phase _) rfl) (by kernel_rfl) (by rfl) (by kernel_rfl) (by kernel_rfl) (by kernel_rfl) (by kernel_rfl) (fun _ _ _ h => h) (g0 rfl) rfl rfl ?_
  refine a_pu 5 rfl (ev_bin rfl rfl rfl rfl (neq_i _ 3)) (by rfl) (by kernel_rfl) (by kernel_rfl) (by kernel_rfl) (fun _ _ _ h => h) (g0 rfl) rfl rfl ?_
  refine a_pu 7 rfl (ev_fieldAddr rfl rfl Tryd.runUnderlying86 rfl Tryd.sizeOf4 rfl rfl) (by rfl) (by kernel_rfl) (by kernel_rfl) (by kernel_rfl) (fun _ _ _ h => h) (g0 rfl) rfl rfl ?_
  refine a_ld 8 2 rfl rfl (ev_ld1 (j := 34) rfl rfl Tryd.isAgg4 (FactS.sub_Worn _) rfl) (by kernel_rfl) (by rfl) (by kernel_rfl) (by kernel_rfl) (by kernel_rfl) (by kernel_rfl) (fun _ _ _ h => h) (g0 rfl) rfl rfl ?_
  refine ac 1 (by kernel_rfl) (sl_cons (hG 2 rfl) (sl_cons (hG 2 rfl) (sl_cons (hG 1 rfl) sl_nil))) ?_
  obtain ⟨r4, Hc5, H⟩ := bind_some' H
  refine k_call (c_update_idle a0_m r4 Hc5) Tryd.call112 rfl rfl rfl [] [] rfl rfl (g0 rfl) rfl rfl ?_
  rintro _ _ _ ⟨rfl, rfl, rfl⟩
  dsimp only [app]
  refine ac 2 (by kernel_rfl) (sl_end (by kernel_rfl) (sl_cons (hG 2 rfl) (sl_cons (hG 1 rfl) sl_nil))) ?_
  obtain ⟨r6, Hc7, H⟩ := bind_some' H
  refine k_call (c_update_alone r4 r6 Hc7) Tryd.call106 rfl rfl rfl [] [] rfl rfl (g0 rfl) rfl rfl ?_
  rintro _ _ _ ⟨rfl, rfl, rfl⟩
  dsimp only [app]
  refine ac 6 (by kernel_rfl) (sl_end (by kernel_rfl) (sl_cons (hG 2 rfl) (sl_cons (hG 1 rfl) sl_nil))) ?_
  obtain ⟨r8, Hc9, H⟩ := bind_some' H
  refine k_call (c_update_when (a0_m.Phase != 3) 11 r8 Hc9) Tryd.call108 rfl rfl rfl [] [] rfl rfl (g0 rfl) rfl rfl ?_
  rintro _ _ _ ⟨rfl, rfl, rfl⟩
  dsimp only [app]
  refine ac 9 (by kernel_rfl) (sl_end (by kernel_rfl) (sl_cons (hG 2 rfl) (sl_cons (hG 1 rfl) sl_nil))) ?_
  obtain ⟨r10, Hc11, H⟩ := bind_some' H
  refine k_call (c_update_when a1_f.Worn 5 r10 Hc11) Tryd.call108 rfl rfl rfl [] [] rfl rfl (g0 rfl) rfl rfl ?_
  rintro _ _ _ ⟨rfl, rfl, rfl⟩
  dsimp only [app]
  refine ac 10 (by kernel_rfl) (sl_end (by kernel_rfl) (sl_cons (hG 2 rfl) (sl_end (by kernel_rfl) sl_nil))) ?_
  refine k_buildSlice (f := Ei) ([r8, r10] : List Int) rfl rfl rfl rfl Tryd.runUnderlying176 Tryd.sizeOf24 Tryd.zeroValue24 rfl rfl (fill_all rfl rfl (by simp) rfl rfl) (g0 rfl) rfl rfl ?_
  intro b12
  refine ac 11 (by kernel_rfl) (sl_end (by kernel_rfl) (sl_cons (hG 2 rfl) (sl_end (by kernel_rfl) sl_nil))) ?_
  obtain ⟨r13, Hc14, H⟩ := bind_some' H
  refine k_call (c_update_one r6 ([r8, r10] : List Int) (some ⟨b12, 0, none⟩) 2 r13 Hc14) Tryd.call107 rfl rfl rfl [0] [] rfl rfl (g0 rfl) rfl rfl ?_
  rintro _ _ _ ⟨rfl, rfl, rfl⟩
  dsimp only [app]
  refine ac 12 (by kernel_rfl) (sl_end (by kernel_rfl) (sl_cons (hG 2 rfl) (sl_end (by kernel_rfl) sl_nil))) ?_
  refine k_st (j := 0) rfl rfl rfl rfl (vs := ChangeS.cells r13) rfl (sz (ChangeS.len _) Tryd.sizeOf109) (ChangeS.sc _) 0 rfl (spl_all ((ChangeS.len _).trans (ChangeS.len _).symm)) rfl (g0 rfl) rfl ?_
  refine a_done (by kernel_rfl) (sl_end (by kernel_rfl) (sl_end (by kernel_rfl) (sl_end (by kernel_rfl) sl_nil))) ?_
  refine q_then ?_
  refine s_ret ?_
  cases H
  exact q_end (rs_1 Tryd.results82 (rv_cell (j := 0) rfl (hG 0 rfl) Tryd.isAgg109 (sz (ChangeS.len _) Tryd.sizeOf109) (sub_all _) rfl)) ⟨rfl, rfl, rfl⟩ [] rfl 1 rfl [] rfl 3 rfl

end Go.Proofs.YtphbbnlbfbhcaaaDoor.Wl
